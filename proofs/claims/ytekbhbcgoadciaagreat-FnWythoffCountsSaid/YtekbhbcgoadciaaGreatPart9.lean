/- A memory of names: append behind the front of a vector (a queue): in place, or to new memory; arrays of two integers. No program in sight. -/
import Derived.Test.YtekbhbcgoadciaaGreatPart3
import Derived.Test.YtekbhbcgoadciaaGreatPart1
import Derived.Test.YtekbhbcgoadciaaGreatPart8
import Derived.Test.YtekbhbcgoadciaaGreatPart6
import Derived.Test.YtekbhbcgoadciaaGreatPart7
import Derived.Test.YtekbhbcgoadciaaGreatPart2
import Derived.Test.YtekbhbcgoadciaaGreatProg
import Derived.Test.YtekbhbcgoadciaaGreatPart4
namespace Go.Proofs.YtekbhbcgoadciaaGreat
open Go.RowKit
section
variable {P:Program} {nt:Nat} {S S1 S2:St} {w0 w:World} {ω0:g9} {ω:bJ} {η:Env} {a:Act} {Q:Exit→Act→World→Prop} {ops:Array Oper} {rest:List Oper}
variable {t:Nat} {ty:TypeId} {ps:String} {af:Array Edge} {gd:Option (Nat×Bool)} {x y:Operand} {av:AV} {o:Oper}
structure yL (P:Program) (nt:Nat) (o:Oper) (S S1 S2:St):Prop where
 go:∀w0 ω0 a w Q,Sat w0 ω0 nt S a w→o.wp P a w (fun a w=>Sat w0 ω0 nt S1 a w∨Sat w0 ω0 nt S2 a w) Q
theorem yL.fin {w':World} {v:Value} (h:(execOp a.eval o).run P w= .ok (.value v) w') (k:Sat w0 ω0 nt S1 (a.put o.dst v) w'∨Sat w0 ω0 nt S2 (a.put o.dst v) w'):o.wp P a w (fun a w=>Sat w0 ω0 nt S1 a w∨Sat w0 ω0 nt S2 a w) Q:=by
 unfold Oper.wp
 rw [h]
 exact k
def dF (q:List (Int×Int)):List Int:=q.flatMap fun p=> [p.1,p.2]
theorem iH:∀q:List (Int×Int),(dF q).length=2 * q.length
 | []=>rfl
 | p :: r=>by have:=iH r;simp [dF] at this ⊢;omega
theorem fQ {T:TypeId} {x0 x1:Operand} {z0 z1:Int} (ht:Nat.blt t nt=true) (hx0:S.op x0=some (vv (I6 z0))) (hx1:S.op x1=some (vv (I6 z1))) (hb:P.built T [(0,I6 z0),(1,I6 z1)]=some #[I6 z0,I6 z1]):
  bN P nt ⟨some t, .build T #[(0,x0),(1,x1)],ty,ps,af,gd⟩ S (S.put t (.s (.agg [.val (I6 z0), .val (I6 z1)]))):=
 bN.of _ fun w0 ω0 η ω a w hs=>by
  refine ⟨.agg #[I6 z0,I6 z1],w, ?_,η,ω,hs.fi (by simpa using ht) (⟨_,rfl,rfl,fun j b hb=> ?_⟩:fm η (.agg [.val (I6 z0), .val (I6 z1)]) _)⟩
  ·simp only [execOp]
   simp [hs.fg hx0,hs.fg hx1,run_build w T #[(0,I6 z0),(1,I6 z1)] _ hb]
  ·match j,hb with
   | 0,hb=>simp at hb;subst hb;exact ⟨_,by simp,rfl⟩
   | 1,hb=>simp at hb;subst hb;exact ⟨_,by simp,rfl⟩
theorem ik {T E:Nat} {x0:Operand} {z0 z1:Int} (ht:Nat.blt t nt=true) (hT:nf P T E 2=true) (hx:S.op x0=some (.s (.agg [.val (I6 z0), .val (I6 z1)]))):
  bN P nt ⟨some t, .buildSlice T 1 #[(0,x0)],ty,ps,af,gd⟩ S ((S.new t ⟨true,E,2, .bG (aH [z0,z1])⟩).put t (o1 (.sl t 0 1))):=
 bN.of _ fun w0 ω0 η ω a w hs=>by
  obtain ⟨i,z,k1,k2,k3,k4,k5,k6⟩:=dV hT
  obtain ⟨us,hu,hul,hua⟩:fm η (.agg [.val (I6 z0), .val (I6 z1)]) (a.eval x0):=hs.fU hx
  obtain ⟨u0,g0,rfl⟩:=hua 0 _ rfl
  obtain ⟨u1,g1,rfl⟩:=hua 1 _ rfl
  obtain rfl:us= #[I6 z0,I6 z1]:=by
   have:us.size=2:=hul
   match us with
   | ⟨[p,q]⟩=>simp at g0 g1;rw [g0,g1]
  refine ⟨.slice (some ⟨w.heap.size,0,none⟩) 1 1,w.alloc (.cells #[I6 z0,I6 z1] E), ?_, ?_⟩
  ·have hc:(Value.agg #[I6 z0,I6 z1]).cells= #[I6 z0,I6 z1]:=rfl
   simp [execOp,Instr.buildSlice,run_underlying k1,sizeOf,typeInfo,k2,k3,zeroValue,k5,Instr.fill,newRow,hu,hc,qI]
  ·have hal:=hs.alloc (x:=t) (c:=⟨true,E,2, .bG (aH [z0,z1])⟩) (cs:= #[I6 z0,I6 z1]) (r:=fun _=>⟨none,0,1⟩) (n:=1) rfl (by simp) (by simp [dL.len,aH]) (by simp [maxLen]) fun j hj=>by
    have hj:j < 2:=hj
    match j,hj with
    | 0,_=>exact ⟨_,by simp,rfl⟩
    | 1,_=>exact ⟨_,by simp,rfl⟩
   exact ⟨_,_,hal.fi (by simpa using ht) dY⟩
end
end Go.Proofs.YtekbhbcgoadciaaGreat
namespace Go.Proofs.YtekbhbcgoadciaaGreat
open Go.RowKit
def kA (ks:List (Int×Int)) (j:Nat):Int:=(ks.getD j (0,0)).1
def kB (ks:List (Int×Int)) (j:Nat):Int:=(ks.getD j (0,0)).2
theorem nu:∀(ks:List (Int×Int)) (j:Nat),j < ks.length→(aH (dF ks))[j * 2]? =some (.int .i64 (kA ks j))∧(aH (dF ks))[j * 2 + 1]? =some (.int .i64 (kB ks j))
 | [],j,h=>absurd h (by simp)
 | p :: ks,0,_=>by simp [dF,aH,kA,kB]
 | p :: ks,j + 1,h=>by
  have ih:=nu ks j (by simpa using h)
  have e:aH (dF (p :: ks))= .int .i64 p.1 :: .int .i64 p.2 :: aH (dF ks):=by simp [dF,aH]
  rw [e,show (j + 1) * 2=j * 2 + 1 + 1 by omega]
  simp only [List.getElem?_cons_succ]
  exact ⟨by rw [ih.1];simp [kA],by rw [ih.2];simp [kB]⟩
theorem nw:∀(A:List (Int×Int)) (p:Int×Int) (B:List (Int×Int)) (x y:Int),((aH (dF (A ++ p :: B))).set (A.length * 2) (.int .i64 x)).set (A.length * 2 + 1) (.int .i64 y)=aH (dF (A ++ (x,y) :: B))
 | [],p,B,x,y=>by simp [dF,aH]
 | q :: A,p,B,x,y=>by
  have ih:=nw A p B x y
  have e:∀L,aH (dF (q :: L))= .int .i64 q.1 :: .int .i64 q.2 :: aH (dF L):=fun L=>by simp [dF,aH]
  rw [List.cons_append,e,List.length_cons,show (A.length + 1) * 2=A.length * 2 + 1 + 1 by omega]
  simp only [List.set_cons_succ]
  rw [ih,List.cons_append,e]
def kj (w:World) (base E:Nat) (ao:Option Addr) (n c:Nat) (ks:List (Int×Int)):Prop:=
 w.ownsRow base E 2 (.slice ao n c) n (aH (dF ks))∧n≤4398046511104
section
variable {w w':World} {base E:Nat} {ao:Option Addr} {n c:Nat} {ks:List (Int×Int)}
theorem kj.len (h:kj w base E ao n c ks):ks.length=n:=by
 have:=h.1.1;rw [aO,iH] at this;omega
theorem kj.lt (h:kj w base E ao n c ks):∀g,bk ao=some g→base≤g∧g < w.heap.size:=by
 have:=h.1.lt
 rw [cj] at this;exact this
theorem kj.same (h:kj w base E ao n c ks) (hs:∀g,bk ao=some g→w'.heap[g]? =w.heap[g]?):kj w' base E ao n c ks:=by
 refine ⟨⟨h.1.1, ?_⟩,h.2⟩
 rcases h.1.2 with h2 | ⟨g,cap,cur,hv,hg,hh,r⟩
 ·exact Or.inl h2
 ·refine Or.inr ⟨g,cap,cur,hv,hg, ?_,r⟩
  have:bk ao=some g:=by injection hv with h1;subst h1;rfl
  rw [hs g this];exact hh
theorem kj.form (h:kj w base E ao n c ks) (hn:0 < n):∃g,ao=some ⟨g,0,none⟩∧base≤g∧g < w.heap.size∧n≤c∧(∀j,j < n→w.cell? ⟨g,j * 2,none⟩=some (.int .i64 (kA ks j))∧w.cell? ⟨g,j * 2 + 1,none⟩=some (.int .i64 (kB ks j)))∧(∀j,w.frozen? ⟨g,j,none⟩=false):=by
 have hl:=h.len
 obtain ⟨g,cap,hv,hb,hlt⟩:=h.1.form (by omega)
 injection hv with h1 _ h2
 subst h1 h2
 refine ⟨g,rfl,hb,hlt, ?_,fun j hj=> ?_,fun j=>h.1.frozenAt j⟩
 ·rcases h.1.2 with ⟨h2,_⟩ | ⟨g',cap',cur,hv,_,_,hnc,_⟩
  ·cases h2
  ·injection hv with _ _ h3;subst h3;exact hnc
 ·have:=nu ks j (by omega)
  exact ⟨(h.1.cellAt (j * 2) (by omega)).trans this.1,(h.1.cellAt (j * 2 + 1) (by omega)).trans this.2⟩
end
def xf (w:World) (v:Value) (ks:List (Int×Int)):Prop:=∃ao n c,v= .slice ao n c∧ks.length=n∧n≤4398046511104∧(0 < n→∃g,ao=some ⟨g,0,none⟩∧g < w.heap.size∧∀j,j < n→w.cell? ⟨g,j * 2,none⟩=some (.int .i64 (kA ks j))∧w.cell? ⟨g,j * 2 + 1,none⟩=some (.int .i64 (kB ks j)))
theorem xf.below {w w':World} {v:Value} {ks:List (Int×Int)} (h:xf w v ks) (hb:Below w.heap.size w w'):xf w' v ks:=by
 obtain ⟨ao,n,c,rfl,hl,hn,hc⟩:=h
 refine ⟨ao,n,c,rfl,hl,hn,fun h0=> ?_⟩
 obtain ⟨g,rfl,hg,hc⟩:=hc h0
 exact ⟨g,rfl,Nat.lt_of_lt_of_le hg hb.size,fun j hj=>⟨(World.cell?_of_block (hb.block g hg)).trans (hc j hj).1,(World.cell?_of_block (hb.block g hg)).trans (hc j hj).2⟩⟩
def lp (E:Nat) (w:World) (lo hi:Nat) (v:Value) (ks:List (Int×Int)):Prop:=∃ao n c,v= .slice ao n c∧kj w 0 E ao n c ks∧∀g,bk ao=some g→lo≤g∧g < hi
theorem lp.rd {E:Nat} {w:World} {lo hi:Nat} {v:Value} {ks:List (Int×Int)} (h:lp E w lo hi v ks):xf w v ks:=by
 obtain ⟨ao,n,c,rfl,ho,_⟩:=h
 refine ⟨ao,n,c,rfl,ho.len,ho.2,fun h0=> ?_⟩
 obtain ⟨g,rfl,_,hg,_,hc,_⟩:=ho.form h0
 exact ⟨g,rfl,hg,hc⟩
theorem lp.below {E:Nat} {w w':World} {lo hi:Nat} {v:Value} {ks:List (Int×Int)} (h:lp E w lo hi v ks) (hb:Below w.heap.size w w'):lp E w' lo hi v ks:=by
 obtain ⟨ao,n,c,rfl,ho,h1⟩:=h
 exact ⟨ao,n,c,rfl,ho.same fun g hg=>hb.block g (ho.lt g hg).2,h1⟩
theorem lp.only {E:Nat} {w w':World} {lo hi:Nat} {v:Value} {ks:List (Int×Int)} (h:lp E w lo hi v ks) {l k:Nat} (hq:dQ l k w w') (hd:hi≤l∨k≤lo):lp E w' lo hi v ks:=by
 obtain ⟨ao,n,c,rfl,ho,h1⟩:=h
 exact ⟨ao,n,c,rfl,ho.same fun g hg=>hq.block g (ho.lt g hg).2 (by have:=h1 g hg;omega),h1⟩
theorem tS {E:Nat} {w:World} {lo hi:Nat} :lp E w lo hi (.slice none 0 0) []:=⟨none,0,0,rfl,⟨World.ownsRow_nil w 0 E 2,by omega⟩,fun g hg=>nomatch hg⟩
theorem kj.stored {w:World} {base E g n c:Nat} {A B:List (Int×Int)} {p:Int×Int} (h:kj w base E (some ⟨g,0,none⟩) n c (A ++ p :: B)) (x y:Int):
  kj ((w.setCell ⟨g,A.length * 2,none⟩ (.int .i64 x)).setCell ⟨g,A.length * 2 + 1,none⟩ (.int .i64 y)) base E (some ⟨g,0,none⟩) n c (A ++ (x,y) :: B)∧w.grownBy ((w.setCell ⟨g,A.length * 2,none⟩ (.int .i64 x)).setCell ⟨g,A.length * 2 + 1,none⟩ (.int .i64 y)) (some g):=by
 have h1:=h.1.stored (A.length * 2) (.int .i64 x)
 have h2:=h1.1.stored (A.length * 2 + 1) (.int .i64 y)
 refine ⟨⟨?_,h.2⟩,bO h1.2 h2.2⟩
 have:=h2.1
 rw [nw] at this
 exact this
theorem zv {η:Env} {ω:bJ} {w':World} {lo:Nat} {outs:List (Nm×Ch)} {y E:Nat} {ks:List (Int×Int)} {v:Value} (hm:Mem η ω w' (fun x=>lk x outs)) (hlo:∀b,b < lo→ω b=none) (hx:lk y outs=some ⟨true,E,2, .bG (aH (dF ks))⟩) (hv:cu η (.sl y 0 ks.length) v) (hn:ks.length≤4398046511104):lp E w' lo w'.heap.size v ks:=by
 obtain ⟨h,h1,h2,h3⟩:=hm.1 y _ hx
 have h2:h.k=2:=h2
 obtain ⟨ao,rfl,h4,_⟩:=hv.2 h h1
 have h4:=h4 rfl
 subst h4
 rw [Nat.sub_zero]
 have h3:cW ω w' (y,none) h E (aH (dF ks)).length (bU η ω w' true y (.bG (aH (dF ks)))):=h3
 have hl2:(aH (dF ks)).length=2 * ks.length:=by rw [aO,iH]
 have hget:∀j u,j < (aH (dF ks)).length→(∃b o,h.ao=some ⟨b,o,none⟩∧w'.cell? ⟨b,o + j,none⟩=some u)→(aH (dF ks))[j]? =some u:=fun j u hj ⟨b,o,e1,e2⟩=>by
  obtain ⟨b',o',u',f1,f2,f3⟩:=iz.get (own:=true) h3 hj
  rw [e1] at f1;injection f1 with f1;injection f1 with f1 f1';subst f1 f1'
  rw [e2] at f2
  obtain rfl:=Option.some.inj f2
  exact f3
 rcases h3 with ⟨k1,k2,k3⟩ | ⟨b,o,cs,k1,k2,k3,⟨k4,k4'⟩,k5,k6,k7⟩
 ·have:ks.length=0:=by omega
  have:ks= []:=List.length_eq_zero_iff.1 this
  subst this
  exact ⟨_,0,h.c,rfl,⟨⟨rfl, .inl ⟨by rw [k1,k2],rfl⟩⟩,by omega⟩,fun g hg=>by rw [k1] at hg;cases hg⟩
 ·subst k4
  rw [h2] at k4' k5
  have hb:lo≤b:=by
   rcases Nat.lt_or_ge b lo with h8 | h8
   ·rw [hlo b h8] at k2;cases k2
   ·exact h8
  refine ⟨_,ks.length,h.c,rfl,⟨⟨by rw [hl2];omega, .inr ⟨b,h.c,cs,by rw [k1],Nat.zero_le _,k3,by omega,k6,k4', ?_⟩⟩,hn⟩,fun g hg=> ?_⟩
  ·apply List.ext_getElem?
   intro j
   rw [List.getElem?_take]
   by_cases hj:j < ks.length * 2
   ·obtain ⟨u,hu,_⟩:=k7 j (by omega)
    rw [Nat.zero_add] at hu
    rw [if_pos hj,hget j u (by omega) ⟨b,0,k1,by rw [Nat.zero_add,cell_of_row w' b j cs E (0,0) k3];exact hu⟩]
    simpa using hu
   ·rw [if_neg hj,List.getElem?_eq_none (by omega)]
  ·rw [k1] at hg
   injection hg with hg
   subst hg
   exact ⟨hb,eN k3⟩
end Go.Proofs.YtekbhbcgoadciaaGreat
namespace Go.Proofs.YtekbhbcgoadciaaGreat
open Go.RowKit
abbrev vo (ks:List (Int×Int)):Ch:=⟨true,37,2, .bG (aH (dF ks))⟩
def qb (zs:List Int) (r q:Nat):Nat→List (Int×Int)
 | 0=> []
 | i + 1=>qb zs r q i ++ (if cC (gF zs r i)=q then [((gF zs r i:Int),((dn zs r (gF zs r i):Nat):Int))] else [])
theorem lC (zs:List Int) (r q:Nat):∀i,(qb zs r q i).length≤i
 | 0=>Nat.le_refl _
 | i + 1=>by
  have:=lC zs r q i
  rw [qb,List.length_append]
  split<;>simp<;>omega
def la (zs:List Int) (r q:Nat):List (Int×Int):=qb zs r q ((bC zs r).length - 1)
def qc (zs:List Int) (m s:Int):Int:=if bz zs=true then (if (gm m 0 (bg zs) && gm s 0 zs.length)=true then cB zs m else 2) else 1
def yX (zs:List Int) (m s:Int):List (Int×Int):=if qc zs m s=0 then la zs m.toNat s.toNat else []
theorem px {zs:List Int} {m s:Int} (h:qc zs m s=0):cB zs m=0∧bz zs=true∧gm m 0 (bg zs)=true∧gm s 0 zs.length=true:=by
 unfold qc at h
 split at h
 ·rename_i hd
  split at h
  ·rename_i hb
   rw [Bool.and_eq_true] at hb
   exact ⟨h,hd,hb.1,hb.2⟩
  ·cases h
 ·cases h
abbrev yH (c:Int):AV:= .tup [.one (.val (.slice none 0 0)), .one (.val (I6 c))]
set_option maxRecDepth 100000 in
set_option maxHeartbeats 4000000 in
theorem vr (zs:List Int) (m s:Int) (hn:zs.length≤4398046511104) (h0:qc zs m s=0):
  FC Tryz.prog 15 [(1003,cf zs)] [o1 (.sl 1003 0 zs.length),vv (I6 m),vv (I6 s)] [(2500,vo (la zs m.toNat s.toNat))] (.tup [.one (.sl 2500 0 (la zs m.toNat s.toNat).length), .one (.val (I6 0))]) []:=by
 have hI:=jE zs zs.length rfl hn
 have hC:=ft zs zs.length m rfl hn
 have hSz:=mi 1003 zs.length
 obtain ⟨hr,hdd,hb1,hb2⟩:=px h0
 rw [hdd] at hI
 rw [hr] at hC
 have hM:=gC zs zs.length m rfl (bE hdd)
 have hW:=kX s 0 zs.length
 rw [hb1] at hM
 rw [hb2] at hW
 obtain ⟨hd,hf,k,rfl,hk,ha⟩:=dO hr
 have h4:=bE hd
 have hlt:=dk h4
 have hk2:k < 1000:=by omega
 rw [Int.toNat_natCast]
 have hsl:=ew h4 k
 obtain ⟨K,hK⟩:∃K,(bC zs k).length - 1=K:=⟨_,rfl⟩
 have hK1:=jL h4 ha
 have hil:K≤(aH (bC zs k)).length:=by rw [aO];omega
 obtain ⟨q,rfl⟩:=Int.eq_ofNat_of_zero_le (dW.1 hb2).1
 rw [Int.toNat_natCast]
 have hS:=(km zs zs.length k K rfl h4 hk2 hK (by omega)).nm [(1003,1003),(8,36)] (by kernel_rfl)
 have hS:FC Tryz.prog 46 [(1003,cf zs)] [o1 (.sl 1003 0 zs.length),vv (I6 k)] [(36,bI (bC zs k))] (o1 (.sl 36 0 K)) []:=hS
 unfold la
 rw [hK]
 refine a5 (nt:=58) Tryz.func15 rfl rfl (by simp) fun w0 ω0=> ?_
 (refine aj ?_;refine ag ?_;apply ae rfl;(exact ai rfl rfl);apply ae rfl;(exact ai rfl rfl);refine aq ?_;refine an ?_;refine aj ?_;refine aD ?_;refine aj ?_;refine ag ?_;apply ae rfl;(exact ah rfl rfl);apply ae rfl;((apply ar 54;exact au hI (by as_aux_lemma=>kernel_rfl) rfl rfl ⟨rfl,trivial⟩ ⟨⟨_,rfl, .inl rfl⟩,trivial⟩ rfl rfl));apply ae rfl;(exact bK rfl rfl);apply ae rfl;(exact ai rfl rfl);refine aq ?_;refine an ?_)
 refine ax rfl (fun e=>by cases e) (fun _=> ?_)
 (refine aj ?_;refine ag ?_;apply ae rfl;(exact ah rfl rfl);apply ae rfl;(exact ah rfl rfl);apply ae rfl;(first | (apply ar 55;exact au hM (by as_aux_lemma=>kernel_rfl) rfl rfl ⟨rfl,rfl,trivial⟩ ⟨⟨_,rfl, .inl rfl⟩,trivial⟩ rfl rfl) | (apply ar 62;exact au hSz (by as_aux_lemma=>kernel_rfl) rfl rfl ⟨rfl,trivial⟩ trivial rfl rfl) | (apply ar 61;exact au hW (by as_aux_lemma=>kernel_rfl) rfl rfl ⟨rfl,rfl,rfl,trivial⟩ trivial rfl rfl));apply ae rfl;(exact bK rfl rfl);apply ae rfl;(exact ah rfl rfl);apply aw rfl rfl rfl;(exact ah rfl rfl);apply aw rfl rfl rfl;(exact ah rfl rfl);apply aw rfl rfl rfl;(first | (apply ar 55;exact au hM (by as_aux_lemma=>kernel_rfl) rfl rfl ⟨rfl,rfl,trivial⟩ ⟨⟨_,rfl, .inl rfl⟩,trivial⟩ rfl rfl) | (apply ar 62;exact au hSz (by as_aux_lemma=>kernel_rfl) rfl rfl ⟨rfl,trivial⟩ trivial rfl rfl) | (apply ar 61;exact au hW (by as_aux_lemma=>kernel_rfl) rfl rfl ⟨rfl,rfl,rfl,trivial⟩ trivial rfl rfl));apply aw rfl rfl rfl;(first | (apply ar 55;exact au hM (by as_aux_lemma=>kernel_rfl) rfl rfl ⟨rfl,rfl,trivial⟩ ⟨⟨_,rfl, .inl rfl⟩,trivial⟩ rfl rfl) | (apply ar 62;exact au hSz (by as_aux_lemma=>kernel_rfl) rfl rfl ⟨rfl,trivial⟩ trivial rfl rfl) | (apply ar 61;exact au hW (by as_aux_lemma=>kernel_rfl) rfl rfl ⟨rfl,rfl,rfl,trivial⟩ trivial rfl rfl));apply aw rfl rfl rfl;(exact bK rfl rfl);apply ae rfl;(exact a7 rfl rfl rfl);apply ae rfl;(exact ai rfl rfl);refine aq ?_;refine an ?_)
 refine ax rfl (fun e=>by cases e) (fun _=> ?_)
 (refine aG ?_;refine aI ?_;refine an ?_;refine aj ?_;refine aj ?_;refine ag ?_;apply ae rfl;(exact ah rfl rfl);apply ae rfl;(exact ah rfl rfl);apply ae rfl;((apply ar 45;exact au hC (by as_aux_lemma=>kernel_rfl) rfl rfl ⟨rfl,rfl,trivial⟩ ⟨⟨_,rfl, .inl rfl⟩,trivial⟩ rfl rfl));apply ae rfl;(exact ai rfl rfl);refine aq ?_;refine an ?_;refine aj ?_;refine ag ?_;apply ae rfl;(exact ah rfl rfl);apply ae rfl;(exact aB rfl rfl rfl rfl);refine aq ?_;refine an ?_)
 refine ax rfl (fun e=>by cases e) (fun _=> ?_)
 (refine aG ?_;refine an ?_;refine aj ?_;refine ag ?_;apply ae rfl;(exact ai rfl rfl);refine aq ?_;refine an ?_;refine aj ?_;refine aj ?_;refine ag ?_;apply ae rfl;(exact ah rfl rfl);apply ae rfl;(exact ah rfl rfl);apply ae rfl;((apply ar 46;exact bl hS (by as_aux_lemma=>kernel_rfl) rfl rfl ⟨rfl,rfl,trivial⟩ ⟨⟨_,rfl, .inl rfl⟩,trivial⟩ rfl rfl rfl));apply ae rfl;(exact br rfl rfl rfl (by as_aux_lemma=>kernel_rfl));apply ae rfl;(exact ah rfl rfl);refine aq ?_;refine an ?_;refine aD ?_)
 refine bx (fun j:Nat=>St.of [(0,o1 (.sl 1003 0 zs.length)),(1,vv (I6 k)),(2,vv (I6 q)),(9,o1 (.sl 2500 0 (qb zs k q j).length)),(36,o1 (.sl 36 0 K)),(37,vv (I6 K)),(38,vv (I6 j))] [(1003,cf zs),(2500,vo (qb zs k q j)),(36,bI (bC zs k))]) (fun j=>j≤K) (fun j=>K - j) 0 (Nat.zero_le _) (Wk.trans (js (t:=9) (n:=2500) (k:=2) (E:=37) (d:= .bG (aH (dF []))) rfl rfl) (Wk.of ⟨rfl,rfl,rfl,rfl,rfl,rfl,rfl,trivial⟩ ⟨rfl,rfl,rfl,trivial⟩ trivial)) ?_
 rintro j hj
 (refine aj ?_;refine ag ?_;apply ae rfl;(exact aB rfl rfl rfl rfl);refine aq ?_;refine an ?_;refine aj ?_)
 refine bM rfl (fun hlj=> ?_) (fun hlj=> ?_)
 ·have hjK:j < K:=by omega
  have hat:=om h4 k j
  have h32:=n7 h4 k j
  have hkl:=lC zs k q j
  obtain ⟨kk,hkk⟩:∃kk,gF zs k j=kk:=⟨_,rfl⟩
  have hst:qb zs k q (j + 1)=qb zs k q j ++ (if cC kk=q then [((kk:Int),((dn zs k kk:Nat):Int))] else []):=by rw [←hkk];rfl
  rw [hkk] at hat h32
  have hgk:(aH (bC zs k))[j]? =some (I6 (kk:Int)):=by rw [aR (by omega),hat]
  have hF:=jY zs zs.length k kk rfl hd hf hk2 (by omega)
  have hln:(0 + (qb zs k q j).length) * 2=(aH (dF (qb zs k q j))).length:=by rw [aO,iH];omega
  have hap:(aH (dF (qb zs k q j))).drop (0 * 2) ++ ((aH [(kk:Int),((dn zs k kk:Nat):Int)]).drop (0 * 2)).take (1 * 2)=aH (dF (qb zs k q j ++ [((kk:Int),((dn zs k kk:Nat):Int))])):=by simp [aH,dF]
  have e8:IntKind.i64.wrap ((j:Int) + 1)=((j + 1:Nat):Int):=by rw [IntWalk.i64_in _ (by omega)];omega
  have hO:=lE kk h32
  have hcu:IntKind.u64.wrap (kk:Int)=(kk:Int):=by rw [IntKind.wrap_u64];omega
  by_cases hpq:cC kk=q
  ·have hbe:=lR (cC kk:Int) (q:Int) true (by rw [hpq];simp)
   rw [if_pos hpq] at hst
   have hsl2:(qb zs k q (j + 1)).length=(qb zs k q j).length + 1:=by rw [hst];simp
   (refine aG ?_;refine an ?_;refine aj ?_;refine aD ?_;refine aj ?_;refine ag ?_;apply ae rfl;(first | exact aS (j:=j) rfl rfl rfl rfl rfl (by as_aux_lemma=>kernel_rfl) rfl hjK hil | exact aV rfl (by as_aux_lemma=>kernel_rfl) rfl rfl rfl hgk | exact aN (k2:= .u64) rfl rfl (by as_aux_lemma=>kernel_rfl) (by as_aux_lemma=>kernel_rfl) hcu | (apply ar 47;exact au hO (by as_aux_lemma=>kernel_rfl) rfl rfl ⟨rfl,trivial⟩ trivial rfl rfl) | exact aB rfl rfl rfl hbe);apply ae rfl;(first | exact aS (j:=j) rfl rfl rfl rfl rfl (by as_aux_lemma=>kernel_rfl) rfl hjK hil | exact aV rfl (by as_aux_lemma=>kernel_rfl) rfl rfl rfl hgk | exact aN (k2:= .u64) rfl rfl (by as_aux_lemma=>kernel_rfl) (by as_aux_lemma=>kernel_rfl) hcu | (apply ar 47;exact au hO (by as_aux_lemma=>kernel_rfl) rfl rfl ⟨rfl,trivial⟩ trivial rfl rfl) | exact aB rfl rfl rfl hbe);apply ae rfl;(exact ai rfl rfl);refine aq ?_;refine an ?_;refine aj ?_;refine ag ?_;apply ae rfl;(exact ah rfl rfl);apply ae rfl;(first | exact aS (j:=j) rfl rfl rfl rfl rfl (by as_aux_lemma=>kernel_rfl) rfl hjK hil | exact aV rfl (by as_aux_lemma=>kernel_rfl) rfl rfl rfl hgk | exact aN (k2:= .u64) rfl rfl (by as_aux_lemma=>kernel_rfl) (by as_aux_lemma=>kernel_rfl) hcu | (apply ar 47;exact au hO (by as_aux_lemma=>kernel_rfl) rfl rfl ⟨rfl,trivial⟩ trivial rfl rfl) | exact aB rfl rfl rfl hbe);apply ae rfl;(first | exact aS (j:=j) rfl rfl rfl rfl rfl (by as_aux_lemma=>kernel_rfl) rfl hjK hil | exact aV rfl (by as_aux_lemma=>kernel_rfl) rfl rfl rfl hgk | exact aN (k2:= .u64) rfl rfl (by as_aux_lemma=>kernel_rfl) (by as_aux_lemma=>kernel_rfl) hcu | (apply ar 47;exact au hO (by as_aux_lemma=>kernel_rfl) rfl rfl ⟨rfl,trivial⟩ trivial rfl rfl) | exact aB rfl rfl rfl hbe);apply ae rfl;(exact ah rfl rfl);apply ae rfl;(first | exact aS (j:=j) rfl rfl rfl rfl rfl (by as_aux_lemma=>kernel_rfl) rfl hjK hil | exact aV rfl (by as_aux_lemma=>kernel_rfl) rfl rfl rfl hgk | exact aN (k2:= .u64) rfl rfl (by as_aux_lemma=>kernel_rfl) (by as_aux_lemma=>kernel_rfl) hcu | (apply ar 47;exact au hO (by as_aux_lemma=>kernel_rfl) rfl rfl ⟨rfl,trivial⟩ trivial rfl rfl) | exact aB rfl rfl rfl hbe);refine aq ?_;refine an ?_)
   refine ax rfl (fun _=> ?_) (fun e=>by cases e)
   (refine ag ?_;apply ae rfl;(exact ah rfl rfl);apply ae rfl;(exact ah rfl rfl);apply ae rfl;(exact ah rfl rfl);apply ae rfl;(exact ah rfl rfl);apply ae rfl;(exact ah rfl rfl);apply ae rfl;(first | (apply ar 48;exact au hF (by as_aux_lemma=>kernel_rfl) rfl rfl ⟨rfl,rfl,rfl,trivial⟩ ⟨⟨_,rfl, .inl rfl⟩,trivial⟩ rfl rfl) | exact fQ rfl rfl rfl (by as_aux_lemma=>kernel_rfl) | exact ik (E:=37) rfl (by as_aux_lemma=>kernel_rfl) rfl | exact eO (k:=2) (m:=1) (E:=37) rfl (by as_aux_lemma=>kernel_rfl) rfl rfl rfl rfl rfl hln rfl (dc (k:=2) rfl rfl rfl rfl (Nat.le_refl _)) (by omega) (by intro v hv;simp [aH] at hv;rcases hv with rfl | rfl<;>rfl) (by omega) | exact aJ rfl rfl rfl e8);apply ae rfl;(first | (apply ar 48;exact au hF (by as_aux_lemma=>kernel_rfl) rfl rfl ⟨rfl,rfl,rfl,trivial⟩ ⟨⟨_,rfl, .inl rfl⟩,trivial⟩ rfl rfl) | exact fQ rfl rfl rfl (by as_aux_lemma=>kernel_rfl) | exact ik (E:=37) rfl (by as_aux_lemma=>kernel_rfl) rfl | exact eO (k:=2) (m:=1) (E:=37) rfl (by as_aux_lemma=>kernel_rfl) rfl rfl rfl rfl rfl hln rfl (dc (k:=2) rfl rfl rfl rfl (Nat.le_refl _)) (by omega) (by intro v hv;simp [aH] at hv;rcases hv with rfl | rfl<;>rfl) (by omega) | exact aJ rfl rfl rfl e8);apply ae rfl;(first | (apply ar 48;exact au hF (by as_aux_lemma=>kernel_rfl) rfl rfl ⟨rfl,rfl,rfl,trivial⟩ ⟨⟨_,rfl, .inl rfl⟩,trivial⟩ rfl rfl) | exact fQ rfl rfl rfl (by as_aux_lemma=>kernel_rfl) | exact ik (E:=37) rfl (by as_aux_lemma=>kernel_rfl) rfl | exact eO (k:=2) (m:=1) (E:=37) rfl (by as_aux_lemma=>kernel_rfl) rfl rfl rfl rfl rfl hln rfl (dc (k:=2) rfl rfl rfl rfl (Nat.le_refl _)) (by omega) (by intro v hv;simp [aH] at hv;rcases hv with rfl | rfl<;>rfl) (by omega) | exact aJ rfl rfl rfl e8);apply ae rfl;(first | (apply ar 48;exact au hF (by as_aux_lemma=>kernel_rfl) rfl rfl ⟨rfl,rfl,rfl,trivial⟩ ⟨⟨_,rfl, .inl rfl⟩,trivial⟩ rfl rfl) | exact fQ rfl rfl rfl (by as_aux_lemma=>kernel_rfl) | exact ik (E:=37) rfl (by as_aux_lemma=>kernel_rfl) rfl | exact eO (k:=2) (m:=1) (E:=37) rfl (by as_aux_lemma=>kernel_rfl) rfl rfl rfl rfl rfl hln rfl (dc (k:=2) rfl rfl rfl rfl (Nat.le_refl _)) (by omega) (by intro v hv;simp [aH] at hv;rcases hv with rfl | rfl<;>rfl) (by omega) | exact aJ rfl rfl rfl e8);apply ae rfl;(exact ai rfl rfl);refine aq ?_;refine aI ?_;refine an ?_;refine ag ?_;apply ae rfl;(first | (apply ar 48;exact au hF (by as_aux_lemma=>kernel_rfl) rfl rfl ⟨rfl,rfl,rfl,trivial⟩ ⟨⟨_,rfl, .inl rfl⟩,trivial⟩ rfl rfl) | exact fQ rfl rfl rfl (by as_aux_lemma=>kernel_rfl) | exact ik (E:=37) rfl (by as_aux_lemma=>kernel_rfl) rfl | exact eO (k:=2) (m:=1) (E:=37) rfl (by as_aux_lemma=>kernel_rfl) rfl rfl rfl rfl rfl hln rfl (dc (k:=2) rfl rfl rfl rfl (Nat.le_refl _)) (by omega) (by intro v hv;simp [aH] at hv;rcases hv with rfl | rfl<;>rfl) (by omega) | exact aJ rfl rfl rfl e8);apply ae rfl;(exact ah rfl rfl);refine aq ?_)
   exact aX (j + 1) (by omega) (by omega) (Wk.of ⟨rfl,rfl,rfl,congrArg (fun z=>some (o1 (.sl 2500 0 z))) hsl2.symm,rfl,rfl,rfl,trivial⟩ ⟨rfl,congrArg (fun z=>some (⟨true,37,2, .bG z⟩:Ch)) (hap.trans (by rw [hst])),rfl,trivial⟩ trivial)
  ·have hbe:=lR (cC kk:Int) (q:Int) false (by rw [decide_eq_false_iff_not];omega)
   rw [if_neg hpq,List.append_nil] at hst
   (refine aG ?_;refine an ?_;refine aj ?_;refine aD ?_;refine aj ?_;refine ag ?_;apply ae rfl;(first | exact aS (j:=j) rfl rfl rfl rfl rfl (by as_aux_lemma=>kernel_rfl) rfl hjK hil | exact aV rfl (by as_aux_lemma=>kernel_rfl) rfl rfl rfl hgk | exact aN (k2:= .u64) rfl rfl (by as_aux_lemma=>kernel_rfl) (by as_aux_lemma=>kernel_rfl) hcu | (apply ar 47;exact au hO (by as_aux_lemma=>kernel_rfl) rfl rfl ⟨rfl,trivial⟩ trivial rfl rfl) | exact aB rfl rfl rfl hbe);apply ae rfl;(first | exact aS (j:=j) rfl rfl rfl rfl rfl (by as_aux_lemma=>kernel_rfl) rfl hjK hil | exact aV rfl (by as_aux_lemma=>kernel_rfl) rfl rfl rfl hgk | exact aN (k2:= .u64) rfl rfl (by as_aux_lemma=>kernel_rfl) (by as_aux_lemma=>kernel_rfl) hcu | (apply ar 47;exact au hO (by as_aux_lemma=>kernel_rfl) rfl rfl ⟨rfl,trivial⟩ trivial rfl rfl) | exact aB rfl rfl rfl hbe);apply ae rfl;(exact ai rfl rfl);refine aq ?_;refine an ?_;refine aj ?_;refine ag ?_;apply ae rfl;(exact ah rfl rfl);apply ae rfl;(first | exact aS (j:=j) rfl rfl rfl rfl rfl (by as_aux_lemma=>kernel_rfl) rfl hjK hil | exact aV rfl (by as_aux_lemma=>kernel_rfl) rfl rfl rfl hgk | exact aN (k2:= .u64) rfl rfl (by as_aux_lemma=>kernel_rfl) (by as_aux_lemma=>kernel_rfl) hcu | (apply ar 47;exact au hO (by as_aux_lemma=>kernel_rfl) rfl rfl ⟨rfl,trivial⟩ trivial rfl rfl) | exact aB rfl rfl rfl hbe);apply ae rfl;(first | exact aS (j:=j) rfl rfl rfl rfl rfl (by as_aux_lemma=>kernel_rfl) rfl hjK hil | exact aV rfl (by as_aux_lemma=>kernel_rfl) rfl rfl rfl hgk | exact aN (k2:= .u64) rfl rfl (by as_aux_lemma=>kernel_rfl) (by as_aux_lemma=>kernel_rfl) hcu | (apply ar 47;exact au hO (by as_aux_lemma=>kernel_rfl) rfl rfl ⟨rfl,trivial⟩ trivial rfl rfl) | exact aB rfl rfl rfl hbe);apply ae rfl;(exact ah rfl rfl);apply ae rfl;(first | exact aS (j:=j) rfl rfl rfl rfl rfl (by as_aux_lemma=>kernel_rfl) rfl hjK hil | exact aV rfl (by as_aux_lemma=>kernel_rfl) rfl rfl rfl hgk | exact aN (k2:= .u64) rfl rfl (by as_aux_lemma=>kernel_rfl) (by as_aux_lemma=>kernel_rfl) hcu | (apply ar 47;exact au hO (by as_aux_lemma=>kernel_rfl) rfl rfl ⟨rfl,trivial⟩ trivial rfl rfl) | exact aB rfl rfl rfl hbe);refine aq ?_;refine an ?_)
   refine ax rfl (fun e=>by cases e) (fun _=> ?_)
   (refine aG ?_;refine aI ?_;refine an ?_;refine ag ?_;apply ae rfl;(exact aJ rfl rfl rfl e8);apply ae rfl;(exact ah rfl rfl);refine aq ?_)
   exact aX (j + 1) (by omega) (by omega) (Wk.of ⟨rfl,rfl,rfl,congrArg (fun z=>some (o1 (.sl 2500 0 (List.length z)))) hst.symm,rfl,rfl,rfl,trivial⟩ ⟨rfl,congrArg (fun z=>some (vo z)) hst.symm,rfl,trivial⟩ trivial)
 ·obtain rfl:j=K:=by omega
  (refine a6 ?_;refine aE ?_;refine aE ?_;refine aP ?_;refine an ?_;refine aj ?_;refine ag ?_;apply ae rfl;(exact ah rfl rfl);apply ae rfl;(exact ai rfl rfl);apply ae rfl;(exact ai rfl rfl);refine aq ?_;refine an ?_;refine aK ?_)
  exact cg (.inl rfl) rfl (.tmp rfl) (.tmp rfl) ⟨rfl,trivial⟩ trivial
set_option maxRecDepth 100000 in
set_option maxHeartbeats 2000000 in
theorem x7 (zs:List Int) (m s:Int) (hn:zs.length≤4398046511104) (h0:qc zs m s≠0):
  FC Tryz.prog 15 [(1003,cf zs)] [o1 (.sl 1003 0 zs.length),vv (I6 m),vv (I6 s)] [] (yH (qc zs m s)) []:=by
 have hI:=jE zs zs.length rfl hn
 have hC:=ft zs zs.length m rfl hn
 have hSz:=mi 1003 zs.length
 unfold qc at h0 ⊢
 refine a5 (nt:=58) Tryz.func15 rfl rfl (by simp) fun w0 ω0=> ?_
 cases hd:bz zs with
 | false=>
  rw [hd] at hI
  rw [if_neg (by simp)]
  (refine aj ?_;refine ag ?_;apply ae rfl;(exact ai rfl rfl);apply ae rfl;(exact ai rfl rfl);refine aq ?_;refine an ?_;refine aj ?_;refine aD ?_;refine aj ?_;refine ag ?_;apply ae rfl;(exact ah rfl rfl);apply ae rfl;((apply ar 54;exact au hI (by as_aux_lemma=>kernel_rfl) rfl rfl ⟨rfl,trivial⟩ ⟨⟨_,rfl, .inl rfl⟩,trivial⟩ rfl rfl));apply ae rfl;(exact bK rfl rfl);apply ae rfl;(exact ai rfl rfl);refine aq ?_;refine an ?_)
  refine ax rfl (fun _=> ?_) (fun e=>by cases e)
  (refine aj ?_;refine ag ?_;apply ae rfl;(exact ai rfl rfl);apply ae rfl;(exact ai rfl rfl);refine aq ?_;refine an ?_;refine aK ?_;refine bh ?_;refine aT ?_)
  exact cg (.inl rfl) rfl (.tmp rfl) (.tmp rfl) trivial trivial
 | true=>
 rw [hd] at hI
 rw [hd,if_pos rfl] at h0
 rw [if_pos rfl]
 have hM:=gC zs zs.length m rfl (bE hd)
 have hW:=kX s 0 zs.length
 (refine aj ?_;refine ag ?_;apply ae rfl;(exact ai rfl rfl);apply ae rfl;(exact ai rfl rfl);refine aq ?_;refine an ?_;refine aj ?_;refine aD ?_;refine aj ?_;refine ag ?_;apply ae rfl;(exact ah rfl rfl);apply ae rfl;((apply ar 54;exact au hI (by as_aux_lemma=>kernel_rfl) rfl rfl ⟨rfl,trivial⟩ ⟨⟨_,rfl, .inl rfl⟩,trivial⟩ rfl rfl));apply ae rfl;(exact bK rfl rfl);apply ae rfl;(exact ai rfl rfl);refine aq ?_;refine an ?_)
 refine ax rfl (fun e=>by cases e) (fun _=> ?_)
 cases hb1:gm m 0 (bg zs) with
 | false=>
  rw [hb1] at hM
  rw [Bool.false_and,if_neg (by simp)]
  (refine aj ?_;refine ag ?_;apply ae rfl;(exact ah rfl rfl);apply ae rfl;(exact ah rfl rfl);apply ae rfl;(first | (apply ar 55;exact au hM (by as_aux_lemma=>kernel_rfl) rfl rfl ⟨rfl,rfl,trivial⟩ ⟨⟨_,rfl, .inl rfl⟩,trivial⟩ rfl rfl) | (apply ar 62;exact au hSz (by as_aux_lemma=>kernel_rfl) rfl rfl ⟨rfl,trivial⟩ trivial rfl rfl) | (apply ar 61;exact au hW (by as_aux_lemma=>kernel_rfl) rfl rfl ⟨rfl,rfl,rfl,trivial⟩ trivial rfl rfl));apply ae rfl;(exact bK rfl rfl);apply ae rfl;(exact ah rfl rfl);apply aA rfl rfl rfl rfl rfl;apply aA rfl rfl rfl rfl rfl;apply aA rfl rfl rfl rfl rfl;apply aA rfl rfl rfl rfl rfl;apply aA rfl rfl rfl rfl rfl;apply ae rfl;(exact aY rfl rfl rfl);apply ae rfl;(exact ai rfl rfl);refine aq ?_;refine an ?_)
  refine ax rfl (fun _=> ?_) (fun e=>by cases e)
  (refine aj ?_;refine ag ?_;apply ae rfl;(exact ai rfl rfl);apply ae rfl;(exact ai rfl rfl);refine aq ?_;refine an ?_;refine aK ?_;refine bh ?_;refine aT ?_)
  exact cg (.inl rfl) rfl (.tmp rfl) (.tmp rfl) trivial trivial
 | true=>
 rw [hb1] at hM
 cases hb2:gm s 0 zs.length with
 | false=>
  rw [hb2] at hW
  rw [Bool.and_false,if_neg (by simp)]
  (refine aj ?_;refine ag ?_;apply ae rfl;(exact ah rfl rfl);apply ae rfl;(exact ah rfl rfl);apply ae rfl;(first | (apply ar 55;exact au hM (by as_aux_lemma=>kernel_rfl) rfl rfl ⟨rfl,rfl,trivial⟩ ⟨⟨_,rfl, .inl rfl⟩,trivial⟩ rfl rfl) | (apply ar 62;exact au hSz (by as_aux_lemma=>kernel_rfl) rfl rfl ⟨rfl,trivial⟩ trivial rfl rfl) | (apply ar 61;exact au hW (by as_aux_lemma=>kernel_rfl) rfl rfl ⟨rfl,rfl,rfl,trivial⟩ trivial rfl rfl));apply ae rfl;(exact bK rfl rfl);apply ae rfl;(exact ah rfl rfl);apply aw rfl rfl rfl;(exact ah rfl rfl);apply aw rfl rfl rfl;(exact ah rfl rfl);apply aw rfl rfl rfl;(first | (apply ar 55;exact au hM (by as_aux_lemma=>kernel_rfl) rfl rfl ⟨rfl,rfl,trivial⟩ ⟨⟨_,rfl, .inl rfl⟩,trivial⟩ rfl rfl) | (apply ar 62;exact au hSz (by as_aux_lemma=>kernel_rfl) rfl rfl ⟨rfl,trivial⟩ trivial rfl rfl) | (apply ar 61;exact au hW (by as_aux_lemma=>kernel_rfl) rfl rfl ⟨rfl,rfl,rfl,trivial⟩ trivial rfl rfl));apply aw rfl rfl rfl;(first | (apply ar 55;exact au hM (by as_aux_lemma=>kernel_rfl) rfl rfl ⟨rfl,rfl,trivial⟩ ⟨⟨_,rfl, .inl rfl⟩,trivial⟩ rfl rfl) | (apply ar 62;exact au hSz (by as_aux_lemma=>kernel_rfl) rfl rfl ⟨rfl,trivial⟩ trivial rfl rfl) | (apply ar 61;exact au hW (by as_aux_lemma=>kernel_rfl) rfl rfl ⟨rfl,rfl,rfl,trivial⟩ trivial rfl rfl));apply aw rfl rfl rfl;(exact bK rfl rfl);apply ae rfl;(exact a7 rfl rfl rfl);apply ae rfl;(exact ai rfl rfl);refine aq ?_;refine an ?_)
  refine ax rfl (fun _=> ?_) (fun e=>by cases e)
  (refine aj ?_;refine ag ?_;apply ae rfl;(exact ai rfl rfl);apply ae rfl;(exact ai rfl rfl);refine aq ?_;refine an ?_;refine aK ?_;refine bh ?_;refine aT ?_)
  exact cg (.inl rfl) rfl (.tmp rfl) (.tmp rfl) trivial trivial
 | true=>
 rw [hb2] at hW
 rw [hb1,hb2,if_pos (by rfl)] at h0
 rw [if_pos (by rfl)]
 (refine aj ?_;refine ag ?_;apply ae rfl;(exact ah rfl rfl);apply ae rfl;(exact ah rfl rfl);apply ae rfl;(first | (apply ar 55;exact au hM (by as_aux_lemma=>kernel_rfl) rfl rfl ⟨rfl,rfl,trivial⟩ ⟨⟨_,rfl, .inl rfl⟩,trivial⟩ rfl rfl) | (apply ar 62;exact au hSz (by as_aux_lemma=>kernel_rfl) rfl rfl ⟨rfl,trivial⟩ trivial rfl rfl) | (apply ar 61;exact au hW (by as_aux_lemma=>kernel_rfl) rfl rfl ⟨rfl,rfl,rfl,trivial⟩ trivial rfl rfl));apply ae rfl;(exact bK rfl rfl);apply ae rfl;(exact ah rfl rfl);apply aw rfl rfl rfl;(exact ah rfl rfl);apply aw rfl rfl rfl;(exact ah rfl rfl);apply aw rfl rfl rfl;(first | (apply ar 55;exact au hM (by as_aux_lemma=>kernel_rfl) rfl rfl ⟨rfl,rfl,trivial⟩ ⟨⟨_,rfl, .inl rfl⟩,trivial⟩ rfl rfl) | (apply ar 62;exact au hSz (by as_aux_lemma=>kernel_rfl) rfl rfl ⟨rfl,trivial⟩ trivial rfl rfl) | (apply ar 61;exact au hW (by as_aux_lemma=>kernel_rfl) rfl rfl ⟨rfl,rfl,rfl,trivial⟩ trivial rfl rfl));apply aw rfl rfl rfl;(first | (apply ar 55;exact au hM (by as_aux_lemma=>kernel_rfl) rfl rfl ⟨rfl,rfl,trivial⟩ ⟨⟨_,rfl, .inl rfl⟩,trivial⟩ rfl rfl) | (apply ar 62;exact au hSz (by as_aux_lemma=>kernel_rfl) rfl rfl ⟨rfl,trivial⟩ trivial rfl rfl) | (apply ar 61;exact au hW (by as_aux_lemma=>kernel_rfl) rfl rfl ⟨rfl,rfl,rfl,trivial⟩ trivial rfl rfl));apply aw rfl rfl rfl;(exact bK rfl rfl);apply ae rfl;(exact a7 rfl rfl rfl);apply ae rfl;(exact ai rfl rfl);refine aq ?_;refine an ?_)
 refine ax rfl (fun e=>by cases e) (fun _=> ?_)
 (refine aG ?_;refine aI ?_;refine an ?_;refine aj ?_;refine aj ?_;refine ag ?_;apply ae rfl;(exact ah rfl rfl);apply ae rfl;(exact ah rfl rfl);apply ae rfl;((apply ar 45;exact au hC (by as_aux_lemma=>kernel_rfl) rfl rfl ⟨rfl,rfl,trivial⟩ ⟨⟨_,rfl, .inl rfl⟩,trivial⟩ rfl rfl));apply ae rfl;(exact ai rfl rfl);refine aq ?_;refine an ?_;refine aj ?_;refine ag ?_;apply ae rfl;(exact ah rfl rfl);apply ae rfl;(exact aB rfl rfl rfl rfl);refine aq ?_;refine an ?_)
 refine ax rfl (fun _=> ?_) (fun e=>absurd (by simpa using e) h0)
 (refine aj ?_;refine ag ?_;apply ae rfl;(exact ah rfl rfl);apply ae rfl;(exact ai rfl rfl);apply ae rfl;(exact ai rfl rfl);refine aq ?_;refine an ?_;refine aK ?_;refine aT ?_)
 exact cg (.inl rfl) rfl (.tmp rfl) (.tmp rfl) trivial trivial
theorem oq {f:FuncId} {x:Nm} {zs:List Int} {m s:Int} (hy:zs.length≤4398046511104→qc zs m s=0→FC Tryz.prog f [(1003,cf zs)] [o1 (.sl 1003 0 zs.length),vv (I6 m),vv (I6 s)] [(x,vo (la zs m.toNat s.toNat))] (.tup [.one (.sl x 0 (la zs m.toNat s.toNat).length), .one (.val (I6 0))]) [])
  (hno:zs.length≤4398046511104→qc zs m s≠0→FC Tryz.prog f [(1003,cf zs)] [o1 (.sl 1003 0 zs.length),vv (I6 m),vv (I6 s)] [] (yH (qc zs m s)) [])
  {E:Nat} {lo hi:Nat} {v:Value} (w:World) (h:dZ E w lo hi v zs):
  Calls Tryz.prog f #[v, .int .i64 m, .int .i64 s] w fun e w'=>∃r,e= .returned (.tuple #[r, .int .i64 (qc zs m s)])∧lp 37 w' w.heap.size w'.heap.size r (yX zs m s)∧Below w.heap.size w w':=by
 unfold yX
 by_cases h0:qc zs m s=0
 ·have h4:=bE (px h0).2.1
  have hB:=ew h4 m.toNat
  have hB2:=lC zs m.toNat s.toNat ((bC zs m.toNat).length - 1)
  have hB3:(la zs m.toNat s.toNat).length≤32:=by unfold la;omega
  rw [if_pos h0,h0]
  refine (j9 m s (fun k1=>hy k1 h0) h).mono ?_
  rintro e w' ⟨v,η,ω,rfl,hd,hm,hb,hn⟩
  obtain ⟨u,u',rfl,h1,h2⟩:=jR hd
  have h2:u'=I6 0:=h2
  subst h2
  exact ⟨u,rfl,zv (y:=x) (E:=37) hm hn (by simp [lk]) h1 (by omega),hb⟩
 ·rw [if_neg h0]
  refine (fJ (j9 m s (fun k1=>hno k1 h0) h)).mono ?_
  rintro e w' ⟨rfl,hb⟩
  exact ⟨_,rfl,tS,hb⟩
theorem q9 {E:Nat} {lo hi:Nat} {v:Value} {zs:List Int} (m s:Int) (w:World) (h:dZ E w lo hi v zs):
  Calls Tryz.prog 15 #[v, .int .i64 m, .int .i64 s] w fun e w'=>∃r,e= .returned (.tuple #[r, .int .i64 (qc zs m s)])∧lp 37 w' w.heap.size w'.heap.size r (yX zs m s)∧Below w.heap.size w w':=
 oq (x:=2500) (vr zs m s) (x7 zs m s) w h
end Go.Proofs.YtekbhbcgoadciaaGreat
namespace Go.Proofs.YtekbhbcgoadciaaGreat
open Go.RowKit
def mw (zs:List Int) (l:Nat):Nat:=(xM zs l).toNat
theorem uU (zs:List Int) (l:Nat):fv zs l=mw zs l:=by unfold fv mw;rw [xS]
def oL (zs:List Int) (k l:Nat):Nat:=mw zs (bg zs) / mw zs l / mw zs (iW zs k l)
theorem lT (zs:List Int) (k l:Nat):dn zs k l=oL zs k l:=by unfold dn oL;simp only [uU]
def oH (zs:List Int) (k l:Nat):Nat:=mw zs l / mw zs (kH l k)
theorem uG (zs:List Int) (k l:Nat):jo zs k l=oH zs k l:=by unfold jo oH;simp only [uU]
def yW (zs:List Int) (r:Nat):Nat→List Int
 | 0=>List.replicate (zs.length + 1) 0
 | i + 1=>(yW zs r i).set (cC (gF zs r i)) (aC (yW zs r i) (cC (gF zs r i)) + (oL zs r (gF zs r i):Nat))
theorem xp (zs:List Int) (r:Nat):∀i,iD zs r i=yW zs r i
 | 0=>rfl
 | i + 1=>by rw [iD,yW,xp zs r i,lT]
def yS (zs:List Int) (r:Nat):Nat→List Int
 | 0=>List.replicate (zs.length + 1) 0
 | i + 1=>(yS zs r i).set (cC (gF zs r i)) (aC (yS zs r i) (cC (gF zs r i)) + (oL zs r (gF zs r i) * oH zs r (gF zs r i):Nat))
theorem xo (zs:List Int) (r:Nat):∀i,jH zs r i=yS zs r i
 | 0=>rfl
 | i + 1=>by rw [jH,yS,xo zs r i,lT,uG]
def y7 (zs:List Int) (r q:Nat):Nat→List (Int×Int)
 | 0=> []
 | i + 1=>y7 zs r q i ++ (if cC (gF zs r i)=q then [((gF zs r i:Int),((oL zs r (gF zs r i):Nat):Int))] else [])
theorem xk (zs:List Int) (r q:Nat):∀i,qb zs r q i=y7 zs r q i
 | 0=>rfl
 | i + 1=>by rw [qb,y7,xk zs r q i,lT]
def ql (zs:List Int) (r q:Nat):List (Int×Int):=y7 zs r q ((bC zs r).length - 1)
theorem u5 (zs:List Int) (r q:Nat):la zs r q=ql zs r q:=xk zs r q _
def tq (zs:List Int) (r:Nat):List Int:=yW zs r ((bC zs r).length - 1)
theorem tV (zs:List Int) (r:Nat):jx zs r=tq zs r:=xp zs r _
def yK (zs:List Int) (r:Nat):List Int:=mM (yS zs r ((bC zs r).length - 1)).tail (oL zs r 0) zs.length
theorem yE (zs:List Int) (r:Nat):mQ zs r=yK zs r:=by unfold mQ yK oz;rw [xo,lT]
def kJ (ks:List (Int×Int)):Nat→Int
 | 0=>0
 | i + 1=>kJ ks i + kB ks i
def gl (zs:List Int) (r:Nat):Nat→Int
 | 0=>0
 | k + 1=>gl zs r k + aC (jx zs r) k * (1 - 2 * ((k % 2:Nat):Int))
def vN (L:List Int):Nat→Int
 | 0=>0
 | k + 1=>vN L k + aC L k * (1 - 2 * ((k % 2:Nat):Int))
theorem uN (zs:List Int) (r:Nat):∀k,gl zs r k=vN (tq zs r) k
 | 0=>rfl
 | k + 1=>by rw [gl,vN,uN zs r k,tV]
def iT (zs:List Int) (r:Nat):Nat→Nat
 | 0=>0
 | k + 1=>iT zs r k + (la zs r k).length
def wh (zs:List Int) (r:Nat):Nat→Nat
 | 0=>0
 | k + 1=>wh zs r k + (ql zs r k).length
theorem ug (zs:List Int) (r:Nat):∀k,iT zs r k=wh zs r k
 | 0=>rfl
 | k + 1=>by rw [iT,wh,ug zs r k,u5]
def yn (zs:List Int) (r k:Nat) (p:Int×Int):Bool:=
 qa zs r p.1 == 0 && ((oL zs r p.1.toNat:Int) == p.2 && (decide (0≤p.2∧p.2≤100000∧0≤p.1∧p.1 < 32) && (cC p.1.toNat == k && ((k != 1 || oH zs r p.1.toNat == 2) && (k != 0 || oH zs r p.1.toNat == 1)))))
def zk (zs:List Int) (r:Nat):Bool:=
 (List.range (zs.length + 1)).all (fun k=>(ql zs r k).all (yn zs r k) && (kJ (ql zs r k) (ql zs r k).length == aC (tq zs r) k && decide (0≤aC (tq zs r) k∧aC (tq zs r) k≤100000)))
  && (decide (2≤(bC zs r).length) && (wh zs r (zs.length + 1) + 1 == (bC zs r).length && (vN (tq zs r) (zs.length + 1) == 2 * (((zs.length + 1) % 2:Nat):Int)
  && (zs.length == 0 || (aC (yK zs r) 0 * aC (tq zs r) 0 == 2 * aC (tq zs r) 1 && decide (0≤aC (yK zs r) 0∧aC (yK zs r) 0≤100000))))))
def yB (zs:List Int):Bool:=(List.range (bg zs + 1)).all fun r=> !dz zs (bg zs) r || zk zs r
end Go.Proofs.YtekbhbcgoadciaaGreat
namespace Go.Proofs.YtekbhbcgoadciaaGreat
theorem zg:((kr.drop 0).take 28).all yB=true:=by decide +kernel
end Go.Proofs.YtekbhbcgoadciaaGreat
namespace Go.Proofs.YtekbhbcgoadciaaGreat
theorem zj:((kr.drop 28).take 21).all yB=true:=by decide +kernel
end Go.Proofs.YtekbhbcgoadciaaGreat
namespace Go.Proofs.YtekbhbcgoadciaaGreat
theorem zm:((kr.drop 49).take 20).all yB=true:=by decide +kernel
end Go.Proofs.YtekbhbcgoadciaaGreat
namespace Go.Proofs.YtekbhbcgoadciaaGreat
theorem zf:((kr.drop 69).take 5).all yB=true:=by decide +kernel
end Go.Proofs.YtekbhbcgoadciaaGreat
namespace Go.Proofs.YtekbhbcgoadciaaGreat
theorem xZ:kr.all yB=true:=by
 have e:kr=(kr.drop 0).take 28 ++ ((kr.drop 28).take 21 ++ ((kr.drop 49).take 20 ++ (kr.drop 69).take 5)):=rfl
 rw [e,List.all_append,List.all_append,List.all_append,zg,zj,zm,zf];rfl
end Go.Proofs.YtekbhbcgoadciaaGreat
namespace Go.Proofs.YtekbhbcgoadciaaGreat
open Go.RowKit
structure jC (w wr:World) (sb:Nat) (v:Value) (zs:List Int):Prop where
 own:∃hi,hi≤wr.heap.size∧dZ 2 wr w.heap.size hi v zs
 src:Src wr sb
 only:dQ sb (sb + 1) w wr
 lo:sb < w.heap.size
 ina:yA zs
section
variable {w wr w':World} {sb:Nat} {v:Value} {zs:List Int}
theorem jC.step (h:jC w wr sb v zs) (hs:Src w' sb) (ho:dQ sb (sb + 1) wr w'):jC w w' sb v zs:=by
 obtain ⟨hi,h1,h2⟩:=h.own
 exact ⟨⟨hi,Nat.le_trans h1 ho.size,h2.only ho (.inr h.lo)⟩,hs,h.only.trans ho,h.lo,h.ina⟩
theorem jC.below (h:jC w wr sb v zs) (hb:Below wr.heap.size wr w'):jC w w' sb v zs:=
 have hl:=h.lo
 have hz:=h.only.size
 h.step (h.src.mL fun g hg=>hb.block g (by omega)) (eQ hb)
theorem jC.new (h:jC w wr sb v zs) {ao:Option Addr} {n c:Nat} {ys:List Int} (ho:Own w' wr.heap.size 2 ao n c (ys.map (Value.int .i64))) (hs:Src w' sb) (hO:dQ sb (sb + 1) wr w') (hd:vb ys):jC w w' sb (.slice ao n c) ys:=
 ⟨⟨w'.heap.size,Nat.le_refl _,dZ.of (ho.mono h.only.size)⟩,hs,h.only.trans hO,h.lo, .inl hd⟩
theorem jC.small (h:jC w wr sb v zs):sb < wr.heap.size:=Nat.lt_of_lt_of_le h.lo h.only.size
theorem jC.form (h:jC w wr sb v zs):∃ao c,v= .slice ao zs.length c:=by
 obtain ⟨hi,_,⟨ao,n,c,rfl,o⟩,_⟩:=h.own
 have:=o.len
 rw [List.length_map] at this
 subst this
 exact ⟨ao,c,rfl⟩
theorem jC.fin (h:jC w wr sb v zs):Calls Tryz.prog 66 #[v] wr fun e w'=>e= .returned (.int .i64 (lG zs))∧Below wr.heap.size wr w':=by
 obtain ⟨hi,_,o⟩:=h.own
 exact jI (uf (fun hn=>vw zs _ rfl hn) o)
theorem jC.zp (h:jC w wr sb v zs):Calls Tryz.prog 72 #[v] wr fun e w'=>e= .returned (.bool (bz zs))∧Below wr.heap.size wr w':=by
 obtain ⟨hi,_,o⟩:=h.own
 exact jI (uf (fun hn=>j7 zs _ rfl hn) o)
theorem jC.whole (h:jC w wr sb v zs) (h4:zs.length≤4):Calls Tryz.prog 68 #[v] wr fun e w'=>e= .returned (.int .i64 (bg zs))∧Below wr.heap.size wr w':=by
 obtain ⟨hi,_,o⟩:=h.own
 exact jI (uf (fun _=>fF zs _ rfl h4) o)
theorem jC.order (h:jC w wr sb v zs) (hd:bz zs=true) (hf:dC zs (bg zs)=true):Calls Tryz.prog 83 #[v, .int .i64 (bg zs)] wr fun e w'=>e= .returned (.int .i64 (kM zs (bg zs)))∧Below wr.heap.size wr w':=by
 obtain ⟨hi,_,o⟩:=h.own
 have:=dk (bE hd)
 exact jI (jt _ (fun _=>lD zs _ (bg zs) rfl hd (by omega) hf) o)
theorem jC.x6 (h:jC w wr sb v zs) (h4:zs.length≤4) (r:Nat) (hr:r < 1000):Calls Tryz.prog 100 #[v, .int .i64 (bg zs), .int .i64 r] wr fun e w'=>e= .returned (.bool (dz zs (bg zs) r))∧Below wr.heap.size wr w':=by
 obtain ⟨hi,_,o⟩:=h.own
 have:=dk h4
 exact jI (j9 _ _ (fun _=>qt zs _ (bg zs) r rfl h4 (by omega) hr) o)
end
theorem wQ {zs:List Int} (h:yA zs):zs.length≤7:=by
 rcases h with h | ⟨ys,z,h,_,rfl⟩ | ⟨ys,h,rfl⟩<;>have:=lB h<;>simp<;>omega
theorem rj {zs:List Int} (h:lG zs=0):bz zs=true∧dC zs (bg zs)=true:=by
 cases hd:bz zs with
 | false=>
  unfold lG at h
  rw [uy hd] at h;cases h
 | true=>
  unfold lG at h
  rw [m5 hd] at h
  split at h
  ·exact ⟨rfl,by assumption⟩
  ·cases h
theorem te:∀g:Nat,g < 8→2≤wrap64 (2 ^ (g + 1))∧wrap64 (2 ^ (g + 1))≤256:=by decide +kernel
def xA (w:World) (sb:Nat) (e:Ending) (w':World):Prop:=∃(v:Value) (zs:List Int) (m:Int),e= .returned (.tuple #[v, .int .i64 m])∧jC w w' sb v zs
set_option maxRecDepth 100000 in
set_option maxHeartbeats 6400000 in
theorem qC (sb:Nat) (w:World) (h:Src w sb) (hsb:sb < w.heap.size):Calls Tryz.prog 43 #[.pointer (some ⟨sb,0,none⟩)] w (xA w sb):=by
 go_enter Tryz.func43,Tryz.ntmps43
 go_wp2_with fail
 refine (n4 sb _ h hsb).mono ?_
 rintro e w1 ⟨ao,n,c,zs,rfl,hd,o1,s1,O1⟩
 have D1:jC w w1 sb (.slice ao n c) zs:=⟨⟨_,Nat.le_refl _,dZ.of o1⟩,s1,O1,hsb,hd⟩
 obtain ⟨a1,c1,e1⟩:=D1.form
 rw [e1] at D1 ⊢
 clear o1 s1 O1 hd h e1
 go_wp2_with fail
 go_loopw [4,5] (fun lv kv wr=>∃(k:Nat) (ao:Option Addr) (c:Nat) (zs:List Int),lv= .slice ao zs.length c∧kv= .int .i64 k∧k≤6∧jC w wr sb (.slice ao zs.length c) zs) (fun _ kv _=>6 - (intOf kv).toNat)
 case atStart=>exact ⟨0,a1,c1,zs,rfl,rfl,by omega,D1⟩
 case round=>
  clear D1
  obtain ⟨k,a,c,ys,rfl,rfl,hk,ds⟩:=hrel
  have hsm:=ds.small
  have DS:=Lib.hid ds
  clear ds
  go_upto_region 3 with fail
  go_cut [29] (fun s29 wx=>∃b:Bool,s29= .bool b∧(b=true→k < 6)∧jC w wx sb (.slice a ys.length c) ys)
  case first=>
   by_cases h6:k < 6
   ·by_cases hf:lG ys=0
    ·obtain ⟨hd,hfb⟩:=rj hf
     have h4:=bE hd
     have HF:=Lib.hid hf
     have HD:=Lib.hid hd
     have HB:=Lib.hid hfb
     obtain ⟨o,ho⟩:∃o,kM ys (bg ys)=o:=⟨_,rfl⟩
     have HO:=Lib.hid ho
     clear hf hd hfb ho
     by_cases h400:400 < o
     ·go_wp2_with (first | (go_at_call 66;refine DS.out.fin.mono ?_;rintro e wa ⟨rfl,ba⟩;rw [HF.out];have DA:=Lib.hid (DS.out.below ba);clear ba) | (go_at_call 68;refine (DA.out.whole h4).mono ?_;rintro e wb ⟨rfl,bb⟩;have DB:=Lib.hid (DA.out.below bb);clear bb) | (go_at_call 83;refine (DB.out.order HD.out HB.out).mono ?_;rintro e wc ⟨rfl,bc⟩;rw [HO.out];have DC:=Lib.hid (DB.out.below bc);clear bc) | (go_at_call 98;refine (ee sb 8 _ DC.out.src (by omega)).mono ?_;rintro e wd ⟨r,rfl, -, -,s2,o2⟩;have DD:=Lib.hid (DC.out.step s2 o2);clear s2 o2))
      go_meet
      exact ⟨_,rfl,fun _=>h6,DD.out⟩
     ·go_wp2_with (first | (go_at_call 66;refine DS.out.fin.mono ?_;rintro e wa ⟨rfl,ba⟩;rw [HF.out];have DA:=Lib.hid (DS.out.below ba);clear ba) | (go_at_call 68;refine (DA.out.whole h4).mono ?_;rintro e wb ⟨rfl,bb⟩;have DB:=Lib.hid (DA.out.below bb);clear bb) | (go_at_call 83;refine (DB.out.order HD.out HB.out).mono ?_;rintro e wc ⟨rfl,bc⟩;rw [HO.out];have DC:=Lib.hid (DB.out.below bc);clear bc))
      go_meet
      exact ⟨_,rfl,(by simp),DC.out⟩
    ·obtain ⟨q,hq⟩:∃q,lG ys=q:=⟨_,rfl⟩
     rw [hq] at hf
     have HF:=Lib.hid hq
     clear hq
     have hf2:(q != 0)=true:=by simpa using hf
     go_wp2_with (first | (go_at_call 66;refine DS.out.fin.mono ?_;rintro e wa ⟨rfl,ba⟩;rw [HF.out];have DA:=Lib.hid (DS.out.below ba);clear ba) | (go_at_call 98;refine (ee sb 8 _ DA.out.src (by omega)).mono ?_;rintro e wd ⟨r,rfl, -, -,s2,o2⟩;have DD:=Lib.hid (DA.out.step s2 o2);clear s2 o2))
     go_meet
     exact ⟨_,rfl,fun _=>h6,DD.out⟩
   ·go_wp2_with fail
    go_meet
    exact ⟨_,rfl,(by simp),DS.out⟩
  case rest=>
   obtain ⟨b,hs29,hb,dw⟩:=hcut
   subst hs29
   clear DS
   cases b with
   | true=>
    have hk6:=hb rfl
    have DW:=Lib.hid dw
    have hsm2:=dw.small
    have hsr:=Lib.hid dw.src
    clear dw hb
    go_wp2_with fail
    refine (iY sb _ hsr.out hsm2).mono ?_
    rintro e w2 ⟨a2,n2,c2,z2,rfl,hd2,o2,s2,O2⟩
    have d2:=DW.out.new o2 s2 O2 hd2
    have hl:n2=z2.length:=by have:=o2.len;simpa using this.symm
    subst hl
    clear o2 s2 O2 DW hsr hd2
    go_wp2_with fail
    go_roundw
    case rel=>exact ⟨k + 1,a2,c2,z2,rfl,by go_num,by omega,d2⟩
    case measure=>simp [intOf];omega
   | false=>
    have h7:=wQ dw.ina
    have DW:=Lib.hid dw
    clear dw hb
    have hcv:IntKind.u64.wrap (ys.length:Int)=(ys.length:Int):=by rw [IntKind.wrap_u64];omega
    have hc2:IntKind.u64.wrap ((ys.length:Int) + 1)=(ys.length:Int) + 1:=by rw [IntKind.wrap_u64];omega
    obtain ⟨P,hP,hP0,hP1⟩:∃P:Int,wrap64 (2 ^ (ys.length + 1))=P∧2≤P∧P≤256:=by
     exact ⟨_,rfl,te _ (by omega)⟩
    have hP2:IntKind.i64.wrap (P - 1)=P - 1:=IntWalk.i64_in _ (by omega)
    have hsr:=Lib.hid DW.out.src
    have hsm2:=DW.out.small
    go_upto_region 7 with fail
    go_wp2_with fail
    refine (ee sb (P - 1) _ hsr.out (by omega)).mono ?_
    rintro e w2 ⟨r,rfl, -,r2,s2,o2⟩
    have hr:=r2 (by omega)
    have D2:=Lib.hid (DW.out.step s2 o2)
    have hw1:IntKind.i64.wrap (1 + (r:Int))=1 + (r:Int):=IntWalk.i64_in _ (by omega)
    clear r2 s2 o2 DW hsr
    go_wp2_with fail
    go_loopw [7,8] (fun rv kv wr=>∃(k:Nat) (m:Int),rv= .int .i64 m∧0≤m∧m≤300∧kv= .int .i64 k∧k≤4∧jC w wr sb (.slice a ys.length c) ys) (fun _ kv _=>4 - (intOf kv).toNat)
    case atStart=>exact ⟨0,1 + r,rfl,by omega,by omega,rfl,by omega,D2.out⟩
    case round=>
     clear D2 hw1 hr
     obtain ⟨k2,m,rfl,hm0,hm1,rfl,hk2,ds⟩:=hrel
     have DS:=Lib.hid ds
     have hsm3:=ds.small
     clear ds
     obtain ⟨q,rfl⟩:=Int.eq_ofNat_of_zero_le hm0
     go_upto_region 9 with fail
     go_cut [57] (fun s57 wx=>∃b:Bool,s57= .bool b∧(b=true→k2 < 4)∧jC w wx sb (.slice a ys.length c) ys)
     case first=>
      by_cases h6:k2 < 4
      ·obtain ⟨bd,hbd⟩:∃bd,bz ys=bd:=⟨_,rfl⟩
       have HD:=Lib.hid hbd
       clear hbd
       cases bd with
       | true=>
        have h4:=bE HD.out
        obtain ⟨ba,hba⟩:∃ba,dz ys (bg ys) q=ba:=⟨_,rfl⟩
        have HA:=Lib.hid hba
        clear hba
        go_wp2_with (first | (go_at_call 72;refine DS.out.zp.mono ?_;rintro e wa ⟨rfl,ba⟩;rw [HD.out];have DA:=Lib.hid (DS.out.below ba);clear ba) | (go_at_call 68;refine (DA.out.whole h4).mono ?_;rintro e wb ⟨rfl,bb⟩;have DB:=Lib.hid (DA.out.below bb);clear bb) | (go_at_call 100;refine (DB.out.x6 h4 q (by omega)).mono ?_;rintro e wc ⟨rfl,bc⟩;rw [HA.out];have DC:=Lib.hid (DB.out.below bc);clear bc))
        go_meet
        exact ⟨_,rfl,fun _=>h6,DC.out⟩
       | false=>
        go_wp2_with (go_at_call 72;refine DS.out.zp.mono ?_;rintro e wa ⟨rfl,ba⟩;rw [HD.out];have DA:=Lib.hid (DS.out.below ba);clear ba)
        go_meet
        exact ⟨_,rfl,(by simp),DA.out⟩
      ·go_wp2_with fail
       go_meet
       exact ⟨_,rfl,(by simp),DS.out⟩
     case rest=>
      obtain ⟨b,hs57,hb,dw⟩:=hcut
      subst hs57
      clear DS
      have hsm4:=dw.small
      have DW:=Lib.hid dw
      have hsr:=Lib.hid dw.src
      clear dw
      cases b with
      | true=>
       have hk6:=hb rfl
       clear hb
       go_wp2_with fail
       refine (ee sb (P - 1) _ hsr.out (by omega)).mono ?_
       rintro e w2 ⟨r2,rfl, -,r3,s2,o2⟩
       have hr:=r3 (by omega)
       have D2:=Lib.hid (DW.out.step s2 o2)
       have hw1:IntKind.i64.wrap (1 + (r2:Int))=1 + (r2:Int):=IntWalk.i64_in _ (by omega)
       clear r3 s2 o2 DW hsr
       go_wp2_with fail
       go_roundw
       case rel=>exact ⟨k2 + 1,1 + r2,rfl,by omega,by omega,by go_num,by omega,D2.out⟩
       case measure=>simp [intOf];omega
      | false=>
       clear hb
       go_wp2_with fail
       refine (ee sb 24 _ hsr.out (by omega)).mono ?_
       rintro e w2 ⟨r2,rfl, -, -,s2,o2⟩
       have D2:=Lib.hid (DW.out.step s2 o2)
       have hsm5:=D2.out.small
       have hsr:=Lib.hid s2
       clear s2 o2 DW
       by_cases h0:r2=0
       ·have e0:((r2:Int) == 0)=true:=by rw [h0];rfl
        have iL:db (w2.alloc (.cells #[.int .i64 0, .int .i64 (-1), .int .i64 P] 2)) (some ⟨w2.heap.size,0,none⟩) 3 [0, -1,P]:=j8 w2 [0, -1,P] (by simp)
        have s4:Src (w2.alloc (.cells #[.int .i64 0, .int .i64 (-1), .int .i64 P] 2)) sb:=hsr.out.mL fun g hg=>Below.heap_alloc w2 _ g (by omega)
        have D4:=Lib.hid (D2.out.below (below_alloc1 w2 (.cells #[.int .i64 0, .int .i64 (-1), .int .i64 P] 2)))
        clear h0 D2
        go_wp2_with (go_at_call 101;refine (lH sb _ 3 _ _ _ s4 iL (by omega) (by omega) (by simp [bk];omega)).mono ?_;rintro e w5 ⟨q5,hq5,rfl,s5,o5⟩;have D5:=Lib.hid (D4.out.step s5 o5))
        exact bodyPost_ret (v:= .tuple #[.slice a ys.length c, .int .i64 (aC [0, -1,P] q5)]) (by simp [results,Tryz.f43,go_sem]) rfl ⟨_,ys,_,rfl,D5.out⟩
       ·have e0:((r2:Int) == 0)=false:=by rw [beq_eq_false_iff_ne];omega
        by_cases h1:r2=1
        ·have e1:((r2:Int) == 1)=true:=by rw [h1];rfl
         go_wp2
         exact bodyPost_ret (v:= .tuple #[.slice a ys.length c, .int .i64 1]) (by simp [results,Tryz.f43,go_sem]) rfl ⟨_,ys,_,rfl,D2.out⟩
        ·have e1:((r2:Int) == 1)=false:=by rw [beq_eq_false_iff_ne];omega
         go_wp2
         exact bodyPost_ret (v:= .tuple #[.slice a ys.length c, .int .i64 q]) (by simp [results,Tryz.f43,go_sem]) rfl ⟨_,ys,_,rfl,D2.out⟩
def vM (w:World) (e:Ending) (w':World):Prop:=∃(v:Value) (zs:List Int) (m:Int) (hi:Nat),e= .returned (.tuple #[v, .int .i64 m])∧yA zs∧hi≤w'.heap.size∧dZ 2 w' w.heap.size hi v zs∧Below w.heap.size w w'
set_option maxRecDepth 100000 in
theorem qN (ao:Option Addr) (n c:Nat) (w:World) (h:tb w ao n w.heap.size):Calls Tryz.prog 7 #[.slice ao n c] w (vM w):=by
 go_enter Tryz.func7,Tryz.ntmps7
 go_wp2_with fail
 refine (tJ ao n c w h).mono ?_
 rintro e w1 ⟨rfl,s1,z1,b1⟩
 go_wp2_with fail
 refine (qC _ w1 s1 z1).mono ?_
 rintro e w2 ⟨v,zs,m,rfl,d⟩
 obtain ⟨hi,h1,h2⟩:=d.own
 have hO:=d.only
 have hA:=d.ina
 go_wp2
 exact bodyPost_ret (v:= .tuple #[v, .int .i64 m]) (by simp [results,Tryz.f7,go_sem]) rfl ⟨v,zs,m,hi,rfl,hA,h1,⟨h2.1,h2.2.mono b1.size (Nat.le_refl _)⟩,b1.trans (hO.below (Nat.le_refl _) (by omega))⟩
end Go.Proofs.YtekbhbcgoadciaaGreat
namespace Go.Proofs.YtekbhbcgoadciaaGreat
open Go.RowKit
def ta (zs:List Int) (m:Int):Bool:=cB zs m == 0
def u7 (zs:List Int) (m:Int):Int:=if cB zs m=1 then 1 else if cB zs m=2 then 2 else 0
theorem q6 (zs:List Int) (m:Int):cB zs m=0∨cB zs m=1∨cB zs m=2∨cB zs m=5:=by
 unfold cB
 split
 ·split
  ·split
   ·split
    ·exact .inl rfl
    ·exact .inr (.inr (.inr rfl))
   ·exact .inr (.inr (.inr rfl))
  ·exact .inr (.inr (.inl rfl))
 ·exact .inr (.inl rfl)
set_option maxRecDepth 100000 in
theorem yu (zs:List Int) (m:Int) (hn:zs.length≤4398046511104):
  FC Tryz.prog 12 [(1003,cf zs)] [o1 (.sl 1003 0 zs.length),vv (I6 m)] [] (.tup [.one (.val (.bool (ta zs m))), .one (.val (I6 (u7 zs m)))]) []:=by
 have hC:=l7 zs zs.length m rfl hn
 unfold ta u7
 refine a5 (nt:=19) Tryz.func12 rfl rfl (by simp) fun w0 ω0=> ?_
 rcases q6 zs m with e | e | e | e
 ·rw [e] at hC ⊢
  (refine aj ?_;refine ag ?_;apply ae rfl;(exact ai rfl rfl);apply ae rfl;(exact ai rfl rfl);refine aq ?_;refine an ?_;refine aj ?_;refine ag ?_;apply ae rfl;(exact ah rfl rfl);apply ae rfl;(exact ah rfl rfl);apply ae rfl;(apply ar 49;exact au hC (by as_aux_lemma=>kernel_rfl) rfl rfl ⟨rfl,rfl,trivial⟩ ⟨⟨_,rfl, .inl rfl⟩,trivial⟩ rfl rfl);apply ae rfl;(exact ai rfl rfl);refine aq ?_;refine an ?_;refine aj ?_;refine aj ?_;refine ag ?_;apply ae rfl;(exact ah rfl rfl);apply ae rfl;(exact aB rfl rfl rfl rfl);apply ae rfl;(exact ah rfl rfl);apply aw rfl rfl rfl;(exact ah rfl rfl);apply aw rfl rfl rfl;(exact aB rfl rfl rfl rfl);apply ae rfl;(exact a7 rfl rfl rfl);refine aq ?_;refine an ?_)
  refine ax rfl (fun e=>by cases e) (fun _=> ?_)
  (refine aG ?_;refine an ?_;refine aj ?_;refine ag ?_;apply ae rfl;(exact ah rfl rfl);apply ae rfl;(exact aB rfl rfl rfl rfl);apply ae rfl;(exact ai rfl rfl);apply ae rfl;(exact ai rfl rfl);refine aq ?_;refine an ?_;refine aK ?_)
  exact cg (.inl rfl) rfl (.tmp rfl) (.tmp rfl) trivial trivial
 ·rw [e] at hC ⊢
  (refine aj ?_;refine ag ?_;apply ae rfl;(exact ai rfl rfl);apply ae rfl;(exact ai rfl rfl);refine aq ?_;refine an ?_;refine aj ?_;refine ag ?_;apply ae rfl;(exact ah rfl rfl);apply ae rfl;(exact ah rfl rfl);apply ae rfl;(apply ar 49;exact au hC (by as_aux_lemma=>kernel_rfl) rfl rfl ⟨rfl,rfl,trivial⟩ ⟨⟨_,rfl, .inl rfl⟩,trivial⟩ rfl rfl);apply ae rfl;(exact ai rfl rfl);refine aq ?_;refine an ?_;refine aj ?_;refine aj ?_;refine ag ?_;apply ae rfl;(exact ah rfl rfl);apply ae rfl;(exact aB rfl rfl rfl rfl);apply ae rfl;(exact ah rfl rfl);apply aA rfl rfl rfl rfl rfl;apply aA rfl rfl rfl rfl rfl;apply ae rfl;(exact aY rfl rfl rfl);refine aq ?_;refine an ?_)
  refine ax rfl (fun _=> ?_) (fun e=>by cases e)
  (refine aj ?_;refine ag ?_;apply ae rfl;(exact ah rfl rfl);apply ae rfl;(exact ai rfl rfl);apply ae rfl;(exact ai rfl rfl);refine aq ?_;refine an ?_;refine aK ?_;refine aT ?_)
  exact cg (.inl rfl) rfl (.tmp rfl) (.tmp rfl) trivial trivial
 ·rw [e] at hC ⊢
  (refine aj ?_;refine ag ?_;apply ae rfl;(exact ai rfl rfl);apply ae rfl;(exact ai rfl rfl);refine aq ?_;refine an ?_;refine aj ?_;refine ag ?_;apply ae rfl;(exact ah rfl rfl);apply ae rfl;(exact ah rfl rfl);apply ae rfl;(apply ar 49;exact au hC (by as_aux_lemma=>kernel_rfl) rfl rfl ⟨rfl,rfl,trivial⟩ ⟨⟨_,rfl, .inl rfl⟩,trivial⟩ rfl rfl);apply ae rfl;(exact ai rfl rfl);refine aq ?_;refine an ?_;refine aj ?_;refine aj ?_;refine ag ?_;apply ae rfl;(exact ah rfl rfl);apply ae rfl;(exact aB rfl rfl rfl rfl);apply ae rfl;(exact ah rfl rfl);apply aw rfl rfl rfl;(exact ah rfl rfl);apply aw rfl rfl rfl;(exact aB rfl rfl rfl rfl);apply ae rfl;(exact a7 rfl rfl rfl);refine aq ?_;refine an ?_)
  refine ax rfl (fun _=> ?_) (fun e=>by cases e)
  (refine aj ?_;refine ag ?_;apply ae rfl;(exact ah rfl rfl);apply ae rfl;(exact ai rfl rfl);apply ae rfl;(exact ai rfl rfl);refine aq ?_;refine an ?_;refine aK ?_;refine aT ?_)
  exact cg (.inl rfl) rfl (.tmp rfl) (.tmp rfl) trivial trivial
 ·rw [e] at hC ⊢
  (refine aj ?_;refine ag ?_;apply ae rfl;(exact ai rfl rfl);apply ae rfl;(exact ai rfl rfl);refine aq ?_;refine an ?_;refine aj ?_;refine ag ?_;apply ae rfl;(exact ah rfl rfl);apply ae rfl;(exact ah rfl rfl);apply ae rfl;(apply ar 49;exact au hC (by as_aux_lemma=>kernel_rfl) rfl rfl ⟨rfl,rfl,trivial⟩ ⟨⟨_,rfl, .inl rfl⟩,trivial⟩ rfl rfl);apply ae rfl;(exact ai rfl rfl);refine aq ?_;refine an ?_;refine aj ?_;refine aj ?_;refine ag ?_;apply ae rfl;(exact ah rfl rfl);apply ae rfl;(exact aB rfl rfl rfl rfl);apply ae rfl;(exact ah rfl rfl);apply aw rfl rfl rfl;(exact ah rfl rfl);apply aw rfl rfl rfl;(exact aB rfl rfl rfl rfl);apply ae rfl;(exact a7 rfl rfl rfl);refine aq ?_;refine an ?_)
  refine ax rfl (fun e=>by cases e) (fun _=> ?_)
  (refine aG ?_;refine an ?_;refine aj ?_;refine ag ?_;apply ae rfl;(exact ah rfl rfl);apply ae rfl;(exact aB rfl rfl rfl rfl);apply ae rfl;(exact ai rfl rfl);apply ae rfl;(exact ai rfl rfl);refine aq ?_;refine an ?_;refine aK ?_)
  exact cg (.inl rfl) rfl (.tmp rfl) (.tmp rfl) trivial trivial
set_option maxRecDepth 100000 in
set_option maxHeartbeats 1000000 in
theorem yy (zs:List Int) (m:Int) (hn:zs.length≤4398046511104):
  FC Tryz.prog 11 [(1003,cf zs)] [o1 (.sl 1003 0 zs.length),vv (I6 m)] [] (.tup [.one (.val (.bool (ta zs m))), .one (.val (I6 (u7 zs m)))]) []:=by
 have hI:=jE zs zs.length rfl hn
 unfold ta u7
 refine a5 (nt:=32) Tryz.func11 rfl rfl (by simp) fun w0 ω0=> ?_
 cases hd:bz zs with
 | false=>
  rw [hd] at hI
  rw [jG hd]
  (refine aj ?_;refine ag ?_;apply ae rfl;(exact ai rfl rfl);apply ae rfl;(exact ai rfl rfl);refine aq ?_;refine an ?_;refine aj ?_;refine aD ?_;refine aj ?_;refine ag ?_;apply ae rfl;(exact ah rfl rfl);apply ae rfl;(apply ar 54;exact au hI (by as_aux_lemma=>kernel_rfl) rfl rfl ⟨rfl,trivial⟩ ⟨⟨_,rfl, .inl rfl⟩,trivial⟩ rfl rfl);apply ae rfl;(exact bK rfl rfl);apply ae rfl;(exact ai rfl rfl);refine aq ?_;refine an ?_)
  refine ax rfl (fun _=> ?_) (fun e=>by cases e)
  (refine aj ?_;refine ag ?_;apply ae rfl;(exact ai rfl rfl);apply ae rfl;(exact ai rfl rfl);refine aq ?_;refine an ?_;refine aK ?_;refine bh ?_;refine aT ?_)
  exact cg (.inl rfl) rfl (.tmp rfl) (.tmp rfl) trivial trivial
 | true=>
  rw [hd] at hI
  have h4:=bE hd
  have hM:=gC zs zs.length m rfl h4
  have hA:=gZ zs zs.length rfl h4
  cases hb:gm m 0 (bg zs) with
  | false=>
   rw [hb] at hM
   rw [iI hd hb]
   (refine aj ?_;refine ag ?_;apply ae rfl;(exact ai rfl rfl);apply ae rfl;(exact ai rfl rfl);refine aq ?_;refine an ?_;refine aj ?_;refine aD ?_;refine aj ?_;refine ag ?_;apply ae rfl;(exact ah rfl rfl);apply ae rfl;(apply ar 54;exact au hI (by as_aux_lemma=>kernel_rfl) rfl rfl ⟨rfl,trivial⟩ ⟨⟨_,rfl, .inl rfl⟩,trivial⟩ rfl rfl);apply ae rfl;(exact bK rfl rfl);apply ae rfl;(exact ai rfl rfl);refine aq ?_;refine an ?_)
   refine ax rfl (fun e=>by cases e) (fun _=> ?_)
   (refine aj ?_;refine ag ?_;apply ae rfl;(exact ah rfl rfl);apply ae rfl;(exact ah rfl rfl);apply ae rfl;(apply ar 55;exact au hM (by as_aux_lemma=>kernel_rfl) rfl rfl ⟨rfl,rfl,trivial⟩ ⟨⟨_,rfl, .inl rfl⟩,trivial⟩ rfl rfl);apply ae rfl;(exact bK rfl rfl);apply ae rfl;(exact ai rfl rfl);refine aq ?_;refine an ?_)
   refine ax rfl (fun _=> ?_) (fun e=>by cases e)
   (refine aj ?_;refine ag ?_;apply ae rfl;(exact ai rfl rfl);apply ae rfl;(exact ai rfl rfl);refine aq ?_;refine an ?_;refine aK ?_;refine bh ?_;refine aT ?_)
   exact cg (.inl rfl) rfl (.tmp rfl) (.tmp rfl) trivial trivial
  | true=>
   rw [hb] at hM
   have hlt:=dk h4
   have hbb:=dW.1 hb
   obtain ⟨k,rfl⟩:=Int.eq_ofNat_of_zero_le hbb.1
   cases hf:dC zs (bg zs) with
   | false=>
    have hO:=pM zs zs.length (bg zs) rfl hd (by omega) hf
    rw [iJ hd hb hf]
    (refine aj ?_;refine ag ?_;apply ae rfl;(exact ai rfl rfl);apply ae rfl;(exact ai rfl rfl);refine aq ?_;refine an ?_;refine aj ?_;refine aD ?_;refine aj ?_;refine ag ?_;apply ae rfl;(exact ah rfl rfl);apply ae rfl;(apply ar 54;exact au hI (by as_aux_lemma=>kernel_rfl) rfl rfl ⟨rfl,trivial⟩ ⟨⟨_,rfl, .inl rfl⟩,trivial⟩ rfl rfl);apply ae rfl;(exact bK rfl rfl);apply ae rfl;(exact ai rfl rfl);refine aq ?_;refine an ?_)
    refine ax rfl (fun e=>by cases e) (fun _=> ?_)
    (refine aj ?_;refine ag ?_;apply ae rfl;(exact ah rfl rfl);apply ae rfl;(exact ah rfl rfl);apply ae rfl;(apply ar 55;exact au hM (by as_aux_lemma=>kernel_rfl) rfl rfl ⟨rfl,rfl,trivial⟩ ⟨⟨_,rfl, .inl rfl⟩,trivial⟩ rfl rfl);apply ae rfl;(exact bK rfl rfl);apply ae rfl;(exact ai rfl rfl);refine aq ?_;refine an ?_)
    refine ax rfl (fun e=>by cases e) (fun _=> ?_)
    (refine aG ?_;refine aI ?_;refine an ?_;refine aj ?_;refine ag ?_;apply ae rfl;(exact ah rfl rfl);apply ae rfl;(exact ah rfl rfl);apply ae rfl;(first | (apply ar 57;exact au hA (by as_aux_lemma=>kernel_rfl) rfl rfl ⟨rfl,trivial⟩ ⟨⟨_,rfl, .inl rfl⟩,trivial⟩ rfl rfl) | (apply ar 56;exact au hO (by as_aux_lemma=>kernel_rfl) rfl rfl ⟨rfl,rfl,trivial⟩ ⟨⟨_,rfl, .inl rfl⟩,trivial⟩ rfl rfl));apply ae rfl;(first | (apply ar 57;exact au hA (by as_aux_lemma=>kernel_rfl) rfl rfl ⟨rfl,trivial⟩ ⟨⟨_,rfl, .inl rfl⟩,trivial⟩ rfl rfl) | (apply ar 56;exact au hO (by as_aux_lemma=>kernel_rfl) rfl rfl ⟨rfl,rfl,trivial⟩ ⟨⟨_,rfl, .inl rfl⟩,trivial⟩ rfl rfl));apply ae rfl;(exact ah rfl rfl);apply ae rfl;(exact bL rfl rfl rfl);apply ae rfl;(exact bL rfl rfl rfl);apply ae rfl;(exact ai rfl rfl);apply ae rfl;(exact ai rfl rfl);refine aq ?_;refine an ?_;refine aj ?_;refine ag ?_;apply ae rfl;(exact ah rfl rfl);apply ae rfl;(exact ah rfl rfl);apply aA rfl rfl rfl rfl rfl;apply aA rfl rfl rfl rfl rfl;apply aA rfl rfl rfl rfl rfl;apply aA rfl rfl rfl rfl rfl;apply aA rfl rfl rfl rfl rfl;apply ae rfl;(exact a7 rfl rfl rfl);apply ae rfl;(exact ai rfl rfl);apply ae rfl;(exact ai rfl rfl);refine aq ?_;refine an ?_;refine aK ?_)
    exact cg (.inl rfl) rfl (.tmp rfl) (.tmp rfl) trivial trivial
   | true=>
    have hO:=fk zs zs.length (bg zs) rfl hd (by omega) hf
    have hG:=nH zs zs.length k (bg zs) rfl h4 (by omega) (by omega)
    rw [jB hd hb hf]
    have e1:((if dz zs (bg zs) k=true then (0:Int) else 5) == 0)=dz zs (bg zs) k:=by
     cases dz zs (bg zs) k<;>rfl
    have e2:(if (if dz zs (bg zs) k=true then (0:Int) else 5)=1 then (1:Int) else if (if dz zs (bg zs) k=true then (0:Int) else 5)=2 then 2 else 0)=0:=by
     cases dz zs (bg zs) k<;>rfl
    rw [e1,e2]
    (refine aj ?_;refine ag ?_;apply ae rfl;(exact ai rfl rfl);apply ae rfl;(exact ai rfl rfl);refine aq ?_;refine an ?_;refine aj ?_;refine aD ?_;refine aj ?_;refine ag ?_;apply ae rfl;(exact ah rfl rfl);apply ae rfl;(apply ar 54;exact au hI (by as_aux_lemma=>kernel_rfl) rfl rfl ⟨rfl,trivial⟩ ⟨⟨_,rfl, .inl rfl⟩,trivial⟩ rfl rfl);apply ae rfl;(exact bK rfl rfl);apply ae rfl;(exact ai rfl rfl);refine aq ?_;refine an ?_)
    refine ax rfl (fun e=>by cases e) (fun _=> ?_)
    (refine aj ?_;refine ag ?_;apply ae rfl;(exact ah rfl rfl);apply ae rfl;(exact ah rfl rfl);apply ae rfl;(apply ar 55;exact au hM (by as_aux_lemma=>kernel_rfl) rfl rfl ⟨rfl,rfl,trivial⟩ ⟨⟨_,rfl, .inl rfl⟩,trivial⟩ rfl rfl);apply ae rfl;(exact bK rfl rfl);apply ae rfl;(exact ai rfl rfl);refine aq ?_;refine an ?_)
    refine ax rfl (fun e=>by cases e) (fun _=> ?_)
    (refine aG ?_;refine aI ?_;refine an ?_;refine aj ?_;refine ag ?_;apply ae rfl;(exact ah rfl rfl);apply ae rfl;(exact ah rfl rfl);apply ae rfl;(first | (apply ar 57;exact au hA (by as_aux_lemma=>kernel_rfl) rfl rfl ⟨rfl,trivial⟩ ⟨⟨_,rfl, .inl rfl⟩,trivial⟩ rfl rfl) | (apply ar 56;exact au hO (by as_aux_lemma=>kernel_rfl) rfl rfl ⟨rfl,rfl,trivial⟩ ⟨⟨_,rfl, .inl rfl⟩,trivial⟩ rfl rfl) | (apply ar 58;exact au hG (by as_aux_lemma=>kernel_rfl) rfl rfl ⟨rfl,rfl,rfl,trivial⟩ ⟨⟨_,rfl, .inl rfl⟩,trivial⟩ rfl rfl));apply ae rfl;(first | (apply ar 57;exact au hA (by as_aux_lemma=>kernel_rfl) rfl rfl ⟨rfl,trivial⟩ ⟨⟨_,rfl, .inl rfl⟩,trivial⟩ rfl rfl) | (apply ar 56;exact au hO (by as_aux_lemma=>kernel_rfl) rfl rfl ⟨rfl,rfl,trivial⟩ ⟨⟨_,rfl, .inl rfl⟩,trivial⟩ rfl rfl) | (apply ar 58;exact au hG (by as_aux_lemma=>kernel_rfl) rfl rfl ⟨rfl,rfl,rfl,trivial⟩ ⟨⟨_,rfl, .inl rfl⟩,trivial⟩ rfl rfl));apply ae rfl;(exact ah rfl rfl);apply ae rfl;(exact bL rfl rfl rfl);apply ae rfl;(exact bL rfl rfl rfl);apply ae rfl;(exact ai rfl rfl);apply ae rfl;(exact ai rfl rfl);refine aq ?_;refine an ?_;refine aj ?_;refine ag ?_;apply ae rfl;(exact ah rfl rfl);apply ae rfl;(exact ah rfl rfl);apply aw rfl rfl rfl;(exact ah rfl rfl);apply aw rfl rfl rfl;(exact ah rfl rfl);apply aw rfl rfl rfl;(exact ah rfl rfl);apply aw rfl rfl rfl;(first | (apply ar 57;exact au hA (by as_aux_lemma=>kernel_rfl) rfl rfl ⟨rfl,trivial⟩ ⟨⟨_,rfl, .inl rfl⟩,trivial⟩ rfl rfl) | (apply ar 56;exact au hO (by as_aux_lemma=>kernel_rfl) rfl rfl ⟨rfl,rfl,trivial⟩ ⟨⟨_,rfl, .inl rfl⟩,trivial⟩ rfl rfl) | (apply ar 58;exact au hG (by as_aux_lemma=>kernel_rfl) rfl rfl ⟨rfl,rfl,rfl,trivial⟩ ⟨⟨_,rfl, .inl rfl⟩,trivial⟩ rfl rfl));apply aw rfl rfl rfl;(first | (apply ar 57;exact au hA (by as_aux_lemma=>kernel_rfl) rfl rfl ⟨rfl,trivial⟩ ⟨⟨_,rfl, .inl rfl⟩,trivial⟩ rfl rfl) | (apply ar 56;exact au hO (by as_aux_lemma=>kernel_rfl) rfl rfl ⟨rfl,rfl,trivial⟩ ⟨⟨_,rfl, .inl rfl⟩,trivial⟩ rfl rfl) | (apply ar 58;exact au hG (by as_aux_lemma=>kernel_rfl) rfl rfl ⟨rfl,rfl,rfl,trivial⟩ ⟨⟨_,rfl, .inl rfl⟩,trivial⟩ rfl rfl));apply ae rfl;(exact aY rfl rfl rfl);apply ae rfl;(exact ai rfl rfl);apply ae rfl;(exact ai rfl rfl);refine aq ?_;refine an ?_;refine aK ?_)
    exact cg (.inl rfl) rfl (.tmp rfl) (.tmp rfl) trivial trivial
theorem qB {E:Nat} {lo hi:Nat} {v:Value} {zs:List Int} (m:Int) (w:World) (h:dZ E w lo hi v zs):
  Calls Tryz.prog 12 #[v, .int .i64 m] w fun e w'=>e= .returned (.tuple #[.bool (ta zs m), .int .i64 (u7 zs m)])∧Below w.heap.size w w':=fJ (jt m (fun k=>yu zs m k) h)
theorem qJ {E:Nat} {lo hi:Nat} {v:Value} {zs:List Int} (m:Int) (w:World) (h:dZ E w lo hi v zs):
  Calls Tryz.prog 11 #[v, .int .i64 m] w fun e w'=>e= .returned (.tuple #[.bool (ta zs m), .int .i64 (u7 zs m)])∧Below w.heap.size w w':=fJ (jt m (fun k=>yy zs m k) h)
end Go.Proofs.YtekbhbcgoadciaaGreat
namespace Go.Proofs.YtekbhbcgoadciaaGreat
def Down (less:List Int):Prop:=∀c,c < less.length→0≤aC less c∧aC less c≤c
def y6 (im:List (List Int)) (c g:Nat):Int:=aC (cD im c) g
structure WF (ng:Nat) (im:List (List Int)) (less:List Int):Prop where
 len:im.length=less.length
 row:∀c,c < im.length→(cD im c).length=ng
 down:Down less
 y6:∀c g,c < im.length→g < ng→y6 im c g < less.length
def alive (less:List Int):Nat:=((List.range less.length).filter fun c=>aC less c == (c:Int)).length
def fuel (ng:Nat) (less:List Int) (q:List (Int×Int)):Nat:=alive less * (ng + 1) + q.length
end Go.Proofs.YtekbhbcgoadciaaGreat
namespace Go.Proofs.YtekbhbcgoadciaaGreat
open Go.RowKit
end Go.Proofs.YtekbhbcgoadciaaGreat
namespace Go.Proofs.YtekbhbcgoadciaaGreat
open Go.RowKit
end Go.Proofs.YtekbhbcgoadciaaGreat
namespace Go.Proofs.YtekbhbcgoadciaaGreat
open Go.RowKit
set_option maxHeartbeats 400000 in
theorem nQ (a b:Option Addr) (n ca cb:Nat) (zs:List Int) (w:World) (ha:db w a n zs) (hb:db w b n zs):
  Calls Tryz.prog 10 #[.slice a n ca, .slice b n cb] w fun e w'=>e= .returned (.bool true)∧∃m,w'=w.drewN m:=by
 have hla:=ha.2.1
 have hl':((n:Int) != (n:Int))=false:=by simp
 go_enter Tryz.func10,Tryz.ntmps10
 go_wp2
 go_loopw [5] (fun i wr=>∃k:Nat,k≤n∧i= .int .i64 k∧∃m,wr=w.drewN m) (fun i _=>n - (intOf i).toNat)
 case atStart=>exact ⟨0,Nat.zero_le _,rfl,0,rfl⟩
 case round=>
  obtain ⟨k,hk,rfl,m,rfl⟩:=hrel
  by_cases hlt:k < n
  ·obtain ⟨ba,oa,rfl,hca⟩:=ha.at_ hlt
   obtain ⟨bb,ob,rfl,hcb⟩:=hb.at_ hlt
   have he':(aC zs k != aC zs k)=false:=by simp
   go_wp2_with fail
   go_quiet (fail)
   go_wp2
   go_roundw
   case rel=>exact ⟨k + 1,by omega,by go_num,_,rfl⟩
   case measure=>first | (simp [intOf];done) | (simp [intOf];omega)
  ·obtain rfl:k=n:=by omega
   go_wp2
   go_ret
   exact ⟨rfl,_,rfl⟩
end Go.Proofs.YtekbhbcgoadciaaGreat
namespace Go.Proofs.YtekbhbcgoadciaaGreat
open Go.RowKit
end Go.Proofs.YtekbhbcgoadciaaGreat
namespace Go.Proofs.YtekbhbcgoadciaaGreat
open Go.RowKit
theorem rF (ao:Option Addr) (n c:Nat) (w:World):Calls Tryz.prog 6 #[.slice ao n c] w fun e w'=>e= .returned (.bool (decide (4096 < n)))∧w'=w:=by
 by_cases h:4096 < n
 ·have e0:decide ((4096:Int) < n)=true:=by simp;omega
  go_enter Tryz.func6,Tryz.ntmps6
  go_wp2
  go_ret
  exact ⟨by simp [h],rfl⟩
 ·have e0:decide ((4096:Int) < n)=false:=by simp;omega
  go_enter Tryz.func6,Tryz.ntmps6
  go_wp2
  go_ret
  exact ⟨by simp [h],rfl⟩
end Go.Proofs.YtekbhbcgoadciaaGreat
namespace Go.Proofs.YtekbhbcgoadciaaGreat
open Go.RowKit
structure yF (zs:List Int) (r k:Nat) (a b:Int):Prop where
 kd:qa zs r a=0
 cnt:sJ zs r a=b
 b0:0≤b∧b≤100000
 a0:0≤a∧a < 32
 pc:cC a.toNat=k
 v1:k=1→oR zs r a=2
 v0:k=0→oR zs r a=1
structure WG (zs:List Int) (r:Nat):Prop where
 few:zs.length≤4
 wl:(jx zs r).length=zs.length + 1
 al:(mQ zs r).length=zs.length
 s2:2≤(bC zs r).length∧(bC zs r).length≤32
 y6:∀k,k < zs.length + 1→∀i,i < (la zs r k).length→yF zs r k (kA (la zs r k) i) (kB (la zs r k) i)
 klen:∀k,(la zs r k).length≤32
 sum:∀k,k < zs.length + 1→kJ (la zs r k) (la zs r k).length=aC (jx zs r) k∧0≤aC (jx zs r) k∧aC (jx zs r) k≤100000
 all:iT zs r (zs.length + 1) + 1=(bC zs r).length
 alt:gl zs r (zs.length + 1)=2 * (((zs.length + 1) % 2:Nat):Int)
 at0:zs.length≠0→aC (mQ zs r) 0 * aC (jx zs r) 0=2 * aC (jx zs r) 1∧0≤aC (mQ zs r) 0∧aC (mQ zs r) 0≤100000
theorem yJ {zs:List Int} {r:Nat} (hz:zs∈kr) (hd:bz zs=true) (hr:r≤bg zs) (ha:dz zs (bg zs) r=true):WG zs r:=by
 have h4:=bE hd
 have h1:=List.all_eq_true.1 xZ zs hz
 unfold yB at h1
 have h2:=List.all_eq_true.1 h1 r (List.mem_range.2 (by omega))
 rw [ha] at h2
 have h2:zk zs r=true:=by simpa using h2
 unfold zk at h2
 simp only [Bool.and_eq_true] at h2
 obtain ⟨g1,g2,g3,g4,g5⟩:=h2
 have hS:=ew h4 r
 have hk:∀k,k < zs.length + 1→(ql zs r k).all (yn zs r k)=true∧kJ (ql zs r k) (ql zs r k).length=aC (tq zs r) k∧0≤aC (tq zs r) k∧aC (tq zs r) k≤100000:=fun k hk=>by
  have:=List.all_eq_true.1 g1 k (List.mem_range.2 hk)
  simp only [Bool.and_eq_true] at this
  obtain ⟨e1,e2,e3⟩:=this
  have e3:=of_decide_eq_true e3
  exact ⟨e1,eq_of_beq e2,e3.1,e3.2⟩
 have hkl:∀k,(la zs r k).length≤32:=fun k=>by
  have:=lC zs r k ((bC zs r).length - 1)
  unfold la;omega
 refine ⟨h4,by unfold jx;rw [gJ],nE zs r,⟨by simpa using g2,by omega⟩,fun k hk2 i hi=> ?_,hkl,fun k hk2=> ?_, ?_, ?_,fun h0=> ?_⟩
 ·rw [u5] at hi ⊢
  have hm:(ql zs r k)[i]∈ql zs r k:=List.getElem_mem hi
  have e:=List.all_eq_true.1 (hk k hk2).1 _ hm
  have ea:kA (ql zs r k) i=((ql zs r k)[i]).1:=by unfold kA;rw [List.getD_eq_getElem?_getD,List.getElem?_eq_getElem hi];rfl
  have eb:kB (ql zs r k) i=((ql zs r k)[i]).2:=by unfold kB;rw [List.getD_eq_getElem?_getD,List.getElem?_eq_getElem hi];rfl
  rw [ea,eb]
  generalize (ql zs r k)[i]=p at *
  unfold yn at e
  simp only [Bool.and_eq_true] at e
  obtain ⟨e1,e2,e3,e4,e5,e6⟩:=e
  have e3:=of_decide_eq_true e3
  have e1:=eq_of_beq e1
  have hc:sJ zs r p.1=(oL zs r p.1.toNat:Int):=by unfold sJ;rw [if_pos e1,lT,Int.toNat_natCast]
  have hv:oR zs r p.1=(oH zs r p.1.toNat:Int):=by unfold oR;rw [if_pos e1,uG,Int.toNat_natCast]
  refine ⟨e1,hc.trans (eq_of_beq e2),⟨e3.1,e3.2.1⟩,⟨e3.2.2.1,e3.2.2.2⟩,eq_of_beq e4,fun h1=> ?_,fun h0=> ?_⟩
  ·subst h1;rw [hv];have:oH zs r p.1.toNat=2:=by simpa using e5
   rw [this];rfl
  ·subst h0;rw [hv];have:oH zs r p.1.toNat=1:=by simpa using e6
   rw [this];rfl
 ·rw [u5,tV];exact (hk k hk2).2
 ·rw [ug];exact eq_of_beq g3
 ·rw [uN];exact eq_of_beq g4
 ·rw [Bool.or_eq_true] at g5
  rcases g5 with g5 | g5
  ·exact absurd (eq_of_beq g5) h0
  ·rw [Bool.and_eq_true] at g5
   rw [yE,tV]
   exact ⟨eq_of_beq g5.1,of_decide_eq_true g5.2⟩
theorem rG {zs:List Int} {r k:Nat} (h:∀i,i < (la zs r k).length→yF zs r k (kA (la zs r k) i) (kB (la zs r k) i)):∀i,i≤(la zs r k).length→0≤kJ (la zs r k) i∧kJ (la zs r k) i≤100000 * i
 | 0,_=>by simp [kJ]
 | i + 1,hi=>by
  have ih:=rG h i (by omega)
  have e:=(h i (by omega)).b0
  rw [kJ];omega
theorem r8 {zs:List Int} {r:Nat} (G:WG zs r):∀k,k≤zs.length + 1→ -(100000 * (k:Int))≤gl zs r k∧gl zs r k≤100000 * k
 | 0,_=>by simp [gl]
 | k + 1,hk=>by
  have ih:=r8 G k (by omega)
  have e:=(G.sum k (by omega)).2
  rw [gl]
  rcases (by omega:k % 2=0∨k % 2=1) with h | h<;>rw [h]<;>simp<;>omega
theorem rQ {zs:List Int} {r:Nat} (G:WG zs r):∀k,iT zs r k≤32 * k
 | 0=>by simp [iT]
 | k + 1=>by have:=rQ G k;have:=G.klen k;rw [iT];omega
theorem sz {E E':Nat} {lo hi lo' hi':Nat} {v v':Value} {zs:List Int} {w:World} (h:dZ E w lo hi v zs) (h':dZ E' w lo' hi' v' zs):Calls Tryz.prog 10 #[v,v'] w fun e w'=>e= .returned (.bool true)∧Below w.heap.size w w':=by
 obtain ⟨⟨a,n,c,rfl,o⟩,_⟩:=h
 obtain ⟨⟨a',n',c',rfl,o'⟩,_⟩:=h'
 have h1:zs.length=n:=by have:=o.len;simpa using this
 have h2:zs.length=n':=by have:=o'.len;simpa using this
 obtain rfl:n=n':=by omega
 refine (nQ a a' n c c' zs w o.ints o'.ints).mono ?_
 rintro e w' ⟨rfl,m,rfl⟩
 exact ⟨rfl,below_drewN (Below.refl _ _) m⟩
theorem tu {y:Nat} (h:y < 32):cC y=y % 2 + cC (y / 2):=by unfold cC;omega
def zw (k:Nat) (w:World) (e:Ending) (w':World):Prop:=e= .returned (.int .i64 k)∧w'=w
theorem ko (x:Nat) (hx:x < 32) (w:World):Calls Tryz.prog 18 #[.int .i64 x] w (zw (cC x) w):=by
 go_enter Tryz.func18,Tryz.ntmps18
 go_wp2_with fail
 go_loop [0,3] (fun xv nv=>∃y n:Nat,xv= .int .i64 y∧nv= .int .i64 n∧y < 32∧n + cC y=cC x) (fun xv _=>(intOf xv).toNat)
 case atStart=>exact ⟨x,0,rfl,rfl,hx,by omega⟩
 case round=>
  obtain ⟨y,n,rfl,rfl,hy,hs⟩:=hrel
  have HS:=Lib.hid hs
  clear hs
  have hp5:=n8 x
  have hn:n≤5:=by have:=HS.out;omega
  by_cases h0:0 < y
  ·have t1:(y:Int).tmod 2=((y % 2:Nat):Int):=by rw [Int.tmod_eq_emod_of_nonneg (by omega)];omega
   have t2:(y:Int).tdiv 2=((y / 2:Nat):Int):=by rw [Int.tdiv_eq_ediv_of_nonneg (by omega)];omega
   have w1:IntKind.i64.wrap ((n:Int) + ((y % 2:Nat):Int))=((n + y % 2:Nat):Int):=by rw [IntWalk.i64_in _ (by omega)];omega
   go_wp2
   go_round
   case rel=>exact ⟨y / 2,n + y % 2,by go_num,by go_num,by omega,by have:=HS.out;have:=tu hy;omega⟩
   case measure=>simp [intOf];omega
  ·obtain rfl:y=0:=by omega
   have e:n=cC x:=by have:=HS.out;rw [show cC 0=0 from rfl] at this;omega
   go_wp2
   go_ret
   exact ⟨rfl,rfl⟩
end Go.Proofs.YtekbhbcgoadciaaGreat
namespace Go.Proofs.YtekbhbcgoadciaaGreat
open Go.RowKit
structure xn (w wr:World) (hi:Nat) (v vc va vk:Value) (zs L A:List Int) (ks:List (Int×Int)):Prop where
 lj:dZ 2 wr w.heap.size hi v zs
 cnt:s8 wr vc L
 inc:s8 wr va A
 kin:xf wr vk ks
 bel:Below w.heap.size w wr
theorem xn.below {w wr w':World} {hi:Nat} {v vc va vk:Value} {zs L A:List Int} {ks:List (Int×Int)} (h:xn w wr hi v vc va vk zs L A ks) (hb:Below wr.heap.size wr w'):xn w w' hi v vc va vk zs L A ks:=
 ⟨h.lj.below hb,h.cnt.below hb,h.inc.below hb,h.kin.below hb,h.bel.trans (hb.mono h.bel.size)⟩
theorem jD {w:World} {v:Value} {zs:List Int} (h:s8 w v zs):∃ao c,v= .slice ao zs.length c:=by
 obtain ⟨ao,n,c,rfl,i⟩:=h
 have:=i.1
 subst this
 exact ⟨ao,c,rfl⟩
theorem qj {w:World} {ao:Option Addr} {n c:Nat} {zs:List Int} (h:s8 w (.slice ao n c) zs) (hn:0 < n):∃b off,ao=some ⟨b,off,none⟩∧∀j,j < n→w.cell? ⟨b,off + j,none⟩=some (.int .i64 (aC zs j)):=by
 obtain ⟨ao',n',c',e,i⟩:=h
 injection e with e1 e2 e3
 subst e1 e2 e3
 exact i.2.2 hn
theorem j5 {w:World} {b off n c:Nat} {zs:List Int} (h:s8 w (.slice (some ⟨b,off,none⟩) n c) zs) {j:Nat} (hj:j < n):w.cell? ⟨b,off + j,none⟩=some (.int .i64 (aC zs j)):=by
 obtain ⟨b',off',e,hc⟩:=qj h (by omega)
 injection e with e
 injection e with e1 e2
 subst e1 e2
 exact hc j hj
theorem ua {w:World} {v:Value} {ks:List (Int×Int)} (h:xf w v ks):∃ao c,v= .slice ao ks.length c:=by
 obtain ⟨ao,n,c,rfl,i,_⟩:=h
 subst i
 exact ⟨ao,c,rfl⟩
theorem tn {w:World} {ao:Option Addr} {n c:Nat} {ks:List (Int×Int)} (h:xf w (.slice ao n c) ks) (hn:0 < n):∃g,ao=some ⟨g,0,none⟩∧∀j,j < n→w.cell? ⟨g,j * 2,none⟩=some (.int .i64 (kA ks j))∧w.cell? ⟨g,j * 2 + 1,none⟩=some (.int .i64 (kB ks j)):=by
 obtain ⟨ao',n',c',e,_,_,h2⟩:=h
 injection e with e1 e2 e3
 subst e1 e2 e3
 obtain ⟨g,e,_,hc⟩:=h2 hn
 exact ⟨g,e,hc⟩
theorem lL {w:World} {g n c:Nat} {ks:List (Int×Int)} (h:xf w (.slice (some ⟨g,0,none⟩) n c) ks) {j:Nat} (hj:j < n):w.cell? ⟨g,j * 2,none⟩=some (.int .i64 (kA ks j))∧w.cell? ⟨g,j * 2 + 1,none⟩=some (.int .i64 (kB ks j)):=by
 obtain ⟨g',e,hc⟩:=tn h (by omega)
 injection e with e
 injection e with e1 e2
 subst e1
 exact hc j hj
theorem wI {zs:List Int} {r k:Nat} (hd:bz zs=true) (hr:r≤bg zs) (hC:cB zs (r:Int)=0) (hk:k < zs.length + 1):qc zs (r:Int) (k:Int)=0∧yX zs (r:Int) (k:Int)=la zs r k:=by
 have h0:qc zs (r:Int) (k:Int)=0:=by
  unfold qc
  rw [if_pos hd,if_pos (by rw [Bool.and_eq_true];exact ⟨dW.2 ⟨by omega,by omega⟩,dW.2 ⟨by omega,by omega⟩⟩),hC]
 refine ⟨h0, ?_⟩
 unfold yX
 rw [if_pos h0,Int.toNat_natCast,Int.toNat_natCast]
set_option maxRecDepth 100000 in
set_option maxHeartbeats 6400000 in
theorem jS {ao:Option Addr} {n c:Nat} (w:World) (h:tb w ao n w.heap.size):
  Calls Tryz.prog 3 #[.slice ao n c] w fun e w'=>e= .returned (.bool true)∧Below w.heap.size w w':=by
 by_cases hbig:4096 < n
 ·have e0:decide (4096 < n)=true:=by simp;omega
  go_enter Tryz.func3,Tryz.ntmps3
  go_wp2_with (go_at_call 6;refine (rF ao n c w).mono ?_;rintro e w1 ⟨rfl,hw⟩;rw [hw,e0];clear hw w1)
  go_ret
  exact ⟨rfl,Below.refl _ _⟩
 ·have e0:decide (4096 < n)=false:=by simp;omega
  go_enter Tryz.func3,Tryz.ntmps3
  go_wp2_with (go_at_call 6;refine (rF ao n c w).mono ?_;rintro e w1 ⟨rfl,hw⟩;rw [hw,e0];clear hw w1)
  refine (qN ao n c w h).mono ?_
  rintro e w1 ⟨v,zs,m,hi,rfl,hA, -,o1,B1⟩
  clear hbig e0 h
  have HA:=Lib.hid hA
  clear hA
  obtain ⟨av,cv,rfl⟩:=jD o1.rd
  go_wp2_with fail
  refine (qf m _ o1).mono ?_
  rintro e w2 ⟨vc,rfl,p2,b2⟩
  have o2:=o1.below b2
  have B2:=B1.trans (b2.mono B1.size)
  clear o1 b2 B1
  go_wp2_with fail
  refine (qW m _ o2).mono ?_
  rintro e w3 ⟨vd,rfl,q3,b3⟩
  have o3:=o2.below b3
  have p3:=p2.below b3
  have B3:=B2.trans (b3.mono B2.size)
  clear o2 p2 b3 B2
  have ec:(cB zs m != cB zs m)=false:=by simp
  go_wp2_with (go_at_call 10;refine (sz p3 q3).mono ?_;rintro e w4 ⟨rfl,b4⟩;have o4:=o3.below b4;have p4:=p3.below b4;have B4:=B3.trans (b4.mono B3.size);clear o3 p3 q3 b4 B3 ec)
  refine (qJ m _ o4).mono ?_
  rintro e w5 ⟨rfl,b5⟩
  have o5:=o4.below b5
  have p5:=p4.below b5
  have B5:=B4.trans (b5.mono B4.size)
  clear o4 p4 b5 B4
  go_wp2_with fail
  refine (qB m _ o5).mono ?_
  rintro e w6 ⟨rfl,b6⟩
  have o6:=o5.below b6
  have p6:=p5.below b6
  have B6:=B5.trans (b6.mono B5.size)
  clear o5 p5 b6 B5
  have ei:(u7 zs m != u7 zs m)=false:=by simp
  have er:(ta zs m != ta zs m)=false:=by simp
  by_cases hC:cB zs m=0
  ·obtain ⟨hd,hf,r,rfl,hr,ha⟩:=dO hC
   have G:=Lib.hid (yJ (vR HA.out hd hf) hd hr ha)
   have HI:=Lib.hid (show ta zs (r:Int)=true∧u7 zs (r:Int)=0 by unfold ta u7;rw [hC];exact ⟨rfl,rfl⟩)
   have HW:=Lib.hid (show yz zs (r:Int)=jx zs r∧y8 zs (r:Int)=mQ zs r∧zh zs (r:Int)=bC zs r by unfold yz y8 zh;rw [if_pos hC,if_pos hC,if_pos hC,Int.toNat_natCast];exact ⟨rfl,rfl,rfl⟩)
   have HC:=Lib.hid hC
   have HK:=Lib.hid (fun k (hk:k < zs.length + 1)=>wI hd hr hC hk)
   have h4:=bE hd
   clear hd hf hr ha hC HA
   rw [HW.out.1] at p6
   rw [HC.out,HI.out.1,HI.out.2]
   clear ei er
   go_wp2_with fail
   refine (ri _ _ o6).mono ?_
   rintro e w7 ⟨va,rfl,p7,b7⟩
   rw [HC.out]
   rw [HW.out.2.1] at p7
   have o7:=o6.below b7
   have c7:=p6.below b7
   have B7:=B6.trans (b7.mono B6.size)
   clear o6 p6 b7 B6
   go_wp2_with fail
   refine (qU _ _ o7).mono ?_
   rintro e w8 ⟨vs,rfl,p8,b8⟩
   rw [HC.out]
   rw [HW.out.2.2] at p8
   have o8:=o7.below b8
   have c8:=c7.below b8
   have a8:=p7.below b8
   have B8:=B7.trans (b8.mono B7.size)
   clear o7 c7 p7 b8 B7
   obtain ⟨ac,cc,rfl⟩:=jD c8.rd
   obtain ⟨aa,ca,rfl⟩:=jD a8.rd
   obtain ⟨as',cs,rfl⟩:=jD p8.rd
   have S8:xn w w8 hi (.slice av zs.length cv) (.slice ac (jx zs r).length cc) (.slice aa (mQ zs r).length ca) (.slice none 0 0) zs (jx zs r) (mQ zs r) []:=
    ⟨o8,c8.rd,a8.rd,⟨none,0,0,rfl,rfl,by omega,fun h=>absurd h (by omega)⟩,B8⟩
   clear o8 c8 a8 p8 B8
   have hs2:=G.out.s2.1
   have hs32:=G.out.s2.2
   obtain ⟨ns,hns⟩:∃ns,(bC zs r).length=ns:=⟨_,rfl⟩
   rw [hns] at hs2 hs32
   rw [hns]
   have HNS:=Lib.hid hns
   clear hns
   rw [G.out.wl,G.out.al] at S8
   rw [G.out.wl,G.out.al]
   obtain ⟨cb,co,rfl, -⟩:=qj S8.cnt (by omega)
   have SS:=Lib.hid S8
   clear S8
   go_wp2_with fail
   go_loopw [18,19,20] (fun ev lv kv wr=>∃k:Nat,kv= .int .i64 k∧ev= .int .i64 (gl zs r k)∧lv= .int .i64 (iT zs r k:Nat)∧k≤zs.length + 1∧xn w wr hi (.slice av zs.length cv) (.slice (some ⟨cb,co,none⟩) (zs.length + 1) cc) (.slice aa zs.length ca) (.slice none 0 0) zs (jx zs r) (mQ zs r) []) (fun _ _ kv _=>zs.length + 1 - (intOf kv).toNat)
   case atStart=>exact ⟨0,rfl,rfl,rfl,by omega,SS.out⟩
   case round=>
    clear SS
    obtain ⟨k,rfl,rfl,rfl,hk,ss⟩:=hrel
    have SS:=Lib.hid ss
    clear ss
    have hE:=r8 G.out k hk
    have hL:=rQ G.out k
    by_cases hkn:k < zs.length + 1
    ·go_wp2_with fail
     refine (q9 _ _ _ SS.out.lj).mono ?_
     rintro e w9 ⟨vk,rfl,pk,bk⟩
     have hkz:=HK.out k hkn
     rw [hkz.1]
     rw [hkz.2] at pk
     obtain ⟨ks,hks⟩:∃ks,la zs r k=ks:=⟨_,rfl⟩
     have hen:=G.out.y6 k hkn
     have hkl:=G.out.klen k
     have hsum:=G.out.sum k hkn
     have hsi:=rG hen
     have hnx:gl zs r (k + 1)=gl zs r k + aC (jx zs r) k * (1 - 2 * ((k % 2:Nat):Int))∧iT zs r (k + 1)=iT zs r k + ks.length:=⟨rfl,by rw [←hks];rfl⟩
     rw [hks] at pk hen hkl hsum hsi
     obtain ⟨ak,ck,rfl⟩:=ua pk.rd
     have S9:xn w w9 hi (.slice av zs.length cv) (.slice (some ⟨cb,co,none⟩) (zs.length + 1) cc) (.slice aa zs.length ca) (.slice ak ks.length ck) zs (jx zs r) (mQ zs r) ks:=by
      have:=SS.out.below bk
      exact ⟨this.lj,this.cnt,this.inc,pk.rd,this.bel⟩
     have HEN:=Lib.hid hen
     have HSI:=Lib.hid hsi
     have HSUM:=Lib.hid hsum
     have HNX:=Lib.hid hnx
     have S9:=Lib.hid S9
     clear hen hsi hsum hnx hks hkz bk pk SS
     go_wp2_with fail
     go_loopw [19,23,24] (fun lv tv iv wr=>∃i:Nat,iv= .int .i64 i∧tv= .int .i64 (kJ ks i)∧lv= .int .i64 ((iT zs r k + i:Nat):Int)∧i≤ks.length∧xn w wr hi (.slice av zs.length cv) (.slice (some ⟨cb,co,none⟩) (zs.length + 1) cc) (.slice aa zs.length ca) (.slice ak ks.length ck) zs (jx zs r) (mQ zs r) ks) (fun _ _ iv _=>ks.length - (intOf iv).toNat)
     case atStart=>exact ⟨0,rfl,rfl,rfl,by omega,S9.out⟩
     case round=>
      clear S9
      obtain ⟨i,rfl,rfl,rfl,hil,ss⟩:=hrel
      have SS:=Lib.hid ss
      clear ss
      by_cases hik:i < ks.length
      ·obtain ⟨kd,cnt,b0,a0,pc,v1,v0⟩:=HEN.out i hik
       obtain ⟨g,hg, -⟩:=tn SS.out.kin (by omega)
       subst hg
       have cl:=lL SS.out.kin hik
       obtain ⟨a,ha⟩:∃a,kA ks i=a:=⟨_,rfl⟩
       obtain ⟨b,hb⟩:∃b,kB ks i=b:=⟨_,rfl⟩
       have hst:kJ ks (i + 1)=kJ ks i + b:=by rw [←hb];rfl
       rw [ha] at kd cnt a0 pc v1 v0 cl
       rw [hb] at cnt b0 cl
       obtain ⟨x,rfl⟩:=Int.eq_ofNat_of_zero_le a0.1
       rw [Int.toNat_natCast] at pc
       have HA:=Lib.hid ha
       have HB:=Lib.hid hb
       have hs0:=HSI.out i hil
       have HST:=Lib.hid hst
       have hs1:=HSI.out (i + 1) (by omega)
       rw [hst] at hs1
       clear ha hb hst
       have KD:=Lib.hid kd
       have CN:=Lib.hid cnt
       have PC:=Lib.hid pc
       clear kd cnt pc
       have y0:=cl.1
       clear cl
       go_wp2_with fail
       refine (qL _ _ _ SS.out.lj).mono ?_
       rintro e w10 ⟨rfl,b10⟩
       rw [KD.out,CN.out]
       have S10:=Lib.hid (SS.out.below b10)
       have cl:=lL S10.out.kin hik
       rw [HA.out] at cl
       have y1:=cl.1
       clear b10 SS cl y0
       go_wp2_with fail
       refine (qp _ _ _ S10.out.lj).mono ?_
       rintro e w11 ⟨rfl,b11⟩
       rw [KD.out]
       have S11:=Lib.hid (S10.out.below b11)
       have cl:=lL S11.out.kin hik
       rw [HA.out,HB.out] at cl
       have z0:=cl.1
       have z1:=cl.2
       clear b11 S10 cl y1
       obtain ⟨V,hV⟩:∃V,oR zs (r:Int) (x:Int)=V:=⟨_,rfl⟩
       rw [hV] at v1 v0 ⊢
       clear hV
       have hx32:x < 32:=by omega
       have k3:(k=0∧V=1)∨(k=1∧V=2)∨2≤k:=by
        rcases (by omega:k=0∨k=1∨2≤k) with h | h | h
        ·exact .inl ⟨h,v0 h⟩
        ·exact .inr (.inl ⟨h,v1 h⟩)
        ·exact .inr (.inr h)
       clear v1 v0
       go_upto_region 32 with fail
       go_cut [211] (fun s wx=>s= .bool false∧w11=wx)
       case first=>
        rcases k3 with ⟨h,rfl⟩ | ⟨h,rfl⟩ | h
        ·have f1:((k:Int) == 1)=false:=by rw [beq_eq_false_iff_ne];omega
         have f0:((k:Int) == 0)=true:=by rw [h];rfl
         clear h
         go_wp2_with (go_at_call 18;refine (ko x hx32 _).mono ?_;rintro e w12 ⟨rfl,rfl⟩;rw [PC.out])
         go_meet
         exact ⟨rfl,rfl⟩
        ·have f1:((k:Int) == 1)=true:=by rw [h];rfl
         have f0:((k:Int) == 0)=false:=by rw [beq_eq_false_iff_ne];omega
         clear h
         go_wp2_with (go_at_call 18;refine (ko x hx32 _).mono ?_;rintro e w12 ⟨rfl,rfl⟩;rw [PC.out])
         go_meet
         exact ⟨rfl,rfl⟩
        ·have f1:((k:Int) == 1)=false:=by rw [beq_eq_false_iff_ne];omega
         have f0:((k:Int) == 0)=false:=by rw [beq_eq_false_iff_ne];omega
         go_wp2_with (go_at_call 18;refine (ko x hx32 _).mono ?_;rintro e w12 ⟨rfl,rfl⟩;rw [PC.out])
         go_meet
         exact ⟨rfl,rfl⟩
       case rest=>
        obtain ⟨hs,rfl⟩:=hcut
        subst hs
        clear z0 z1 k3
        have hst:=HST.out
        have hw1:IntKind.i64.wrap (kJ ks i + b)=kJ ks i + b:=IntWalk.i64_in _ (by omega)
        have hw2:IntKind.i64.wrap (((iT zs r k:Nat):Int) + (i:Int) + 1)=((iT zs r k:Nat):Int) + (i:Int) + 1:=IntWalk.i64_in _ (by omega)
        clear hst
        go_wp2_with fail
        go_roundw
        case rel=>exact ⟨i + 1,by go_num,by rw [HST.out],by go_num,by omega,S11.out⟩
        case measure=>simp [intOf];omega
      ·obtain rfl:i=ks.length:=by omega
       have hsm:=HSUM.out
       have cl:=j5 SS.out.cnt hkn
       have hsb:=hsm.2
       rw [hsm.1]
       clear hsm
       obtain ⟨M,hM⟩:∃M,aC (jx zs r) k=M:=⟨_,rfl⟩
       rw [hM] at cl hsb ⊢
       have HM:=Lib.hid hM
       clear hM
       have HNXa:gl zs r (k + 1)=gl zs r k + M * (1 - 2 * ((k % 2:Nat):Int)):=by have:=HNX.out.1;rw [HM.out] at this;exact this
       have HNXb:iT zs r (k + 1)=iT zs r k + ks.length:=HNX.out.2
       have S9:xn w wr hi (.slice av zs.length cv) (.slice (some ⟨cb,co,none⟩) (zs.length + 1) cc) (.slice aa zs.length ca) (.slice none 0 0) zs (jx zs r) (mQ zs r) []:=
        ⟨SS.out.lj,SS.out.cnt,SS.out.inc,⟨none,0,0,rfl,rfl,by omega,fun h=>absurd h (by omega)⟩,SS.out.bel⟩
       have S9:=Lib.hid S9
       clear SS
       rcases (by omega:k % 2=0∨k % 2=1) with hp | hp
       ·have t1:(k:Int).tmod 2=0:=by rw [Int.tmod_eq_emod_of_nonneg (by omega)];omega
        have hx:gl zs r (k + 1)=gl zs r k + M:=by rw [HNXa,hp];simp
        have HX:=Lib.hid hx
        have HY:=Lib.hid HNXb
        have hw1:IntKind.i64.wrap (gl zs r k + M)=gl zs r k + M:=IntWalk.i64_in _ (by omega)
        clear HNXa HNXb hp hx HNX
        go_wp2_with fail
        go_roundw
        case rel=>exact ⟨k + 1,by go_num,by rw [HX.out],by rw [HY.out],by omega,S9.out⟩
        case measure=>simp [intOf];omega
       ·have t1:(k:Int).tmod 2=1:=by rw [Int.tmod_eq_emod_of_nonneg (by omega)];omega
        have hx:gl zs r (k + 1)=gl zs r k + -M:=by rw [HNXa,hp];simp<;>omega
        have HX:=Lib.hid hx
        have HY:=Lib.hid HNXb
        have hw1:IntKind.i64.wrap (gl zs r k + -M)=gl zs r k + -M:=IntWalk.i64_in _ (by omega)
        have hw2:IntKind.i64.wrap (-M)= -M:=IntWalk.i64_in _ (by omega)
        clear HNXa HNXb hp hx HNX
        go_wp2_with fail
        go_roundw
        case rel=>exact ⟨k + 1,by go_num,by rw [HX.out],by rw [HY.out],by omega,S9.out⟩
        case measure=>simp [intOf];omega
    ·obtain rfl:k=zs.length + 1:=by omega
     have hall:=G.out.all
     rw [HNS.out] at hall
     have halt:=G.out.alt
     rw [halt]
     rw [show ((iT zs r (zs.length + 1):Nat):Int)=(ns:Int) - 1 by omega]
     clear hall halt hE hL
     have t1:((zs.length:Int) + 1).tmod 2=(((zs.length + 1) % 2:Nat):Int):=by rw [Int.tmod_eq_emod_of_nonneg (by omega)];omega
     have hw0:IntKind.i64.wrap (2 * (((zs.length + 1) % 2:Nat):Int))=2 * (((zs.length + 1) % 2:Nat):Int):=IntWalk.i64_in _ (by omega)
     obtain ⟨E,hE⟩:∃E:Int,(((zs.length + 1) % 2:Nat):Int)=E:=⟨_,rfl⟩
     rw [hE] at t1 hw0 ⊢
     clear hE
     have hb0:=SS.out.bel
     by_cases h0:zs.length < 1
     ·have hlt:decide ((zs.length:Int) + 1 < 2)=true:=by simp;omega
      go_wp2_with fail
      go_quiet (fail)
      go_wp2
      go_ret
      exact ⟨rfl,below_drewN hb0 _⟩
     ·have hlt:decide ((zs.length:Int) + 1 < 2)=false:=by simp;omega
      obtain ⟨hxy,hx0,hx1⟩:=G.out.at0 (by omega)
      have hy:=(G.out.sum 0 (by omega)).2
      have hz:=(G.out.sum 1 (by omega)).2
      obtain ⟨ab,aof,rfl, -⟩:=qj SS.out.inc (by omega)
      have c0:=j5 SS.out.inc (j:=0) (by omega)
      have c1:=j5 SS.out.cnt (j:=0) (by omega)
      have c2:=j5 SS.out.cnt (j:=1) (by omega)
      rw [Nat.add_zero] at c0 c1
      generalize aC (mQ zs r) 0=x at *
      generalize aC (jx zs r) 0=y at *
      generalize aC (jx zs r) 1=z at *
      have hw1:IntKind.i64.wrap (x * y)=2 * z:=by rw [hxy];exact IntWalk.i64_in _ (by omega)
      have hw2:IntKind.i64.wrap (2 * z)=2 * z:=IntWalk.i64_in _ (by omega)
      clear hxy
      go_wp2_with fail
      go_quiet (fail)
      go_wp2
      go_ret
      exact ⟨rfl,below_drewN hb0 _⟩
  ·have hn:yz zs m= []:=by unfold yz;rw [if_neg hC]
   have hi:ta zs m=false:=by unfold ta;simpa using hC
   rw [hn] at p6
   obtain ⟨⟨a9,n9,c9,rfl,ox⟩,_⟩:=p6
   have hx:=ox.len
   obtain rfl:n9=0:=by simpa using hx.symm
   have hc2:(cB zs m != 0)=true:=by simpa using hC
   clear hn hC ox hx HA
   rw [hi]
   clear er hi
   go_wp2
   go_ret
   exact ⟨rfl,B6⟩
end Go.Proofs.YtekbhbcgoadciaaGreat
