/- Words for the walks of this seat: integer slices that are read, rows that a call owns, and the walk's laws on make and append in those words. No program in sight. -/
import Derived.WalkKit
import Derived.WalkSpells
import Derived.WalkLawsBesides
import Derived.Lib.Hide
import Derived.BigQuiet
import Derived.Deep.QuietTactic
import Derived.Deep.Draws
import Derived.Deep.AppendLies
import Derived.Maps.AppendAt
import Derived.Test.YtekbhbcgoadciaaRows
import Derived.ProofKit
import Derived.OpenShut
import Derived.SizedLaws
import Derived.ChangeSame
import Derived.Deep.Slices
import Derived.Test.YtekbhbcgoadciaaProg
import Derived.RegionTactic
import Derived.Deep.RegionLaw
namespace Go.Proofs.Ytekbhbcgoadciaa
open Go.RowKit
def aC (zs:List Int) (k:Nat):Int:=zs.getD k 0
theorem cG {zs:List Int} {k:Nat} (h:k < zs.length):aC zs k=zs[k]:=by simp [aC,h]
theorem eF {zs:List Int} {k:Nat} (h:k < zs.length):aC zs k∈zs:=by rw [cG h];exact List.getElem_mem h
theorem gT {zs:List Int} {k:Nat} (h:k < zs.length):zs.take (k + 1)=zs.take k ++ [aC zs k]:=by
 rw [List.take_succ_eq_append_getElem h,cG h]
theorem mj {za zb:List Int} (hl:za.length=zb.length) (h:∀k,k < za.length→aC za k=aC zb k):za=zb:=by
 apply List.ext_getElem hl
 intro k h1 h2
 rw [←cG h1,←cG h2];exact h k h1
theorem iR {zs:List Int} {p:Int→Bool} {k:Nat} (h:k < zs.length):(zs.take (k + 1)).all p=((zs.take k).all p && p (aC zs k)):=by
 rw [gT h,List.all_append];simp
theorem p8 {zs:List Int} {p:Int→Bool} {k:Nat} (h:k < zs.length):(zs.take (k + 1)).any p=((zs.take k).any p || p (aC zs k)):=by
 rw [gT h,List.any_append];simp
theorem lN {zs:List Int} {p:Int→Bool} {k:Nat} (h:k < zs.length) (hp:p (aC zs k)=false):zs.all p=false:=by
 rw [List.all_eq_false];exact ⟨_,eF h,by simp [hp]⟩
def bk (ao:Option Addr):Option Nat:=ao.map (·.block)
theorem bN (ao:Option Addr) (n c:Nat):(Value.slice ao n c).ownBlock=bk ao:=by cases ao<;>rfl
def Af (w:World) (ao:Option Addr) (n:Nat) (xs:List Value):Prop:=
 xs.length=n∧n≤17592186044416∧(0 < n→∃b off,ao=some ⟨b,off,none⟩∧∀j u,xs[j]? =some u→w.cell? ⟨b,off + j,none⟩=some u)
def cY (w:World) (ao:Option Addr) (n:Nat) (zs:List Int):Prop:=
 zs.length=n∧n≤17592186044416∧(0 < n→∃b off,ao=some ⟨b,off,none⟩∧∀j,j < n→w.cell? ⟨b,off + j,none⟩=some (.int .i64 (aC zs j)))
theorem cY.at_ {w:World} {ao:Option Addr} {n:Nat} {zs:List Int} (h:cY w ao n zs) {k:Nat} (hk:k < n):
  ∃b off,ao=some ⟨b,off,none⟩∧w.cell? ⟨b,off + k,none⟩=some (.int .i64 (aC zs k)):=by
 obtain ⟨b,off,e,hc⟩:=h.2.2 (by omega)
 exact ⟨b,off,e,hc k hk⟩
theorem cY.Dc {w:World} {ao:Option Addr} {n:Nat} {zs:List Int} (h:cY w ao n zs) (hn:0 < n):
  ∃b off,ao=some ⟨b,off,none⟩∧b < w.heap.size∧∀j,j < n→w.cell? ⟨b,off + j,none⟩=some (.int .i64 (aC zs j)):=by
 obtain ⟨b,off,e,hc⟩:=h.2.2 hn
 exact ⟨b,off,e,World.block_lt_of_cell? w _ (hc 0 hn),hc⟩
theorem cY.bG {w:World} {ao:Option Addr} {n:Nat} {zs:List Int} (h:cY w ao n zs):Af w ao n (zs.map (Value.int .i64)):=by
 refine ⟨by simpa using h.1,h.2.1,fun hn=> ?_⟩
 obtain ⟨b,off,e,hc⟩:=h.2.2 hn
 refine ⟨b,off,e,fun j u hu=> ?_⟩
 have hl:=h.1
 have hj:j < zs.length:=by have:=(List.getElem?_eq_some_iff.1 hu).1;simpa using this
 rw [hc j (by omega),←hu,List.getElem?_map,List.getElem?_eq_getElem hj,cG hj];rfl
theorem cY.drewN {w:World} {ao:Option Addr} {n:Nat} {zs:List Int} (h:cY w ao n zs) (m:Nat):cY (w.drewN m) ao n zs:=h
theorem cY.same {w w':World} {ao:Option Addr} {n:Nat} {zs:List Int} (h:cY w ao n zs) (hs:∀g,bk ao=some g→g < w.heap.size→w'.heap[g]? =w.heap[g]?):cY w' ao n zs:=by
 refine ⟨h.1,h.2.1,fun hn=> ?_⟩
 obtain ⟨b,off,rfl,hb,hc⟩:=h.Dc hn
 exact ⟨b,off,rfl,fun j hj=>(World.cell?_of_block (hs b rfl hb)).trans (hc j hj)⟩
theorem cY.below {w w':World} {ao:Option Addr} {n:Nat} {zs:List Int} (h:cY w ao n zs) (hb:Below w.heap.size w w'):cY w' ao n zs:=
 h.same fun g _ hg=>hb.block g hg
theorem cY.AZ {w:World} {n:Nat} {zs:List Int} (h:cY w none n zs):n=0∧zs= []:=by
 rcases Nat.eq_zero_or_pos n with h0 | h0
 ·exact ⟨h0,List.eq_nil_of_length_eq_zero (h.1.trans h0)⟩
 ·obtain ⟨b,off,e,_⟩:=h.2.2 h0
  cases e
theorem cY.zx (w:World) (ao:Option Addr):cY w ao 0 []:=⟨rfl,by omega,fun h=>absurd h (by omega)⟩
def Own (w:World) (base E:Nat) (ao:Option Addr) (n c:Nat) (xs:List Value):Prop:=
 w.ownsRow base E 1 (.slice ao n c) n xs∧n≤4398046511104
section
variable {w w':World} {base E:Nat} {ao:Option Addr} {n c:Nat} {xs:List Value} {row:Option Nat}
theorem Own.len (h:Own w base E ao n c xs):xs.length=n:=by have:=h.1.1;omega
theorem Own.lt (h:Own w base E ao n c xs):∀g,bk ao=some g→base≤g∧g < w.heap.size:=by
 have:=h.1.lt
 rw [bN] at this;exact this
theorem Own.drewN (h:Own w base E ao n c xs) (m:Nat):Own (w.drewN m) base E ao n c xs:=h
theorem Own.kept (h:Own w base E ao n c xs) (hg:w.grownBy w' row) (hne:bk ao=none∨bk ao≠row):Own w' base E ao n c xs:=
 ⟨h.1.kept hg (by rw [bN];exact hne),h.2⟩
theorem Own.same (h:Own w base E ao n c xs) (hs:∀g,bk ao=some g→w'.heap[g]? =w.heap[g]?):Own w' base E ao n c xs:=by
 refine ⟨⟨h.1.1, ?_⟩,h.2⟩
 rcases h.1.2 with h2 | ⟨g,cap,cur,hv,hg,hh,r⟩
 ·exact Or.inl h2
 ·refine Or.inr ⟨g,cap,cur,hv,hg, ?_,r⟩
  have:bk ao=some g:=by injection hv with h1;subst h1;rfl
  rw [hs g this];exact hh
theorem Own.below (h:Own w base E ao n c xs) (hb:Below w.heap.size w w'):Own w' base E ao n c xs:=
 h.same fun g hg=>hb.block g (h.lt g hg).2
theorem Own.alloc (h:Own w base E ao n c xs) (o:Obj):Own (w.alloc o) base E ao n c xs:=⟨h.1.alloc o,h.2⟩
theorem Own.mono (h:Own w base E ao n c xs) {base':Nat} (hb:base'≤base):Own w base' E ao n c xs:=by
 refine ⟨⟨h.1.1, ?_⟩,h.2⟩
 rcases h.1.2 with h2 | ⟨g,cap,cur,hv,hg,r⟩
 ·exact Or.inl h2
 ·exact Or.inr ⟨g,cap,cur,hv,by omega,r⟩
theorem Own.form (h:Own w base E ao n c xs) (hn:0 < n):∃g,ao=some ⟨g,0,none⟩∧base≤g∧g < w.heap.size∧n≤c∧(∀j,j < n→w.cell? ⟨g,j,none⟩=xs[j]?)∧(∀j,w.frozen? ⟨g,j,none⟩=false):=by
 obtain ⟨g,cap,hv,hb,hlt⟩:=h.1.form hn
 injection hv with h1 _ h2
 subst h1 h2
 refine ⟨g,rfl,hb,hlt, ?_,fun j hj=>h.1.cellAt j (by omega),fun j=>h.1.frozenAt j⟩
 rcases h.1.2 with ⟨h2,_⟩ | ⟨g',cap',cur,hv,_,_,hnc,_⟩
 ·cases h2
 ·injection hv with _ _ h3;subst h3;exact hnc
theorem Own.stored {g:Nat} (h:Own w base E (some ⟨g,0,none⟩) n c xs) (k:Nat) (u:Value):
  Own (w.setCell ⟨g,k,none⟩ u) base E (some ⟨g,0,none⟩) n c (xs.set k u)∧w.grownBy (w.setCell ⟨g,k,none⟩ u) (some g):=
 ⟨⟨(h.1.stored k u).1,h.2⟩,(h.1.stored k u).2⟩
theorem Own.jL (w:World) {base:Nat} (E:Nat) (hb:base≤w.heap.size):Own (w.alloc (.cells #[] E)) base E (some ⟨w.heap.size,0,none⟩) 0 0 []:=⟨World.ownsRow_made w #[] 0 hb (by simp [maxLen]) rfl,by omega⟩
theorem Own.zx (w:World) (base E:Nat):Own w base E none 0 0 []:=⟨World.ownsRow_nil w base E 1,by omega⟩
end
theorem Own.ints {w:World} {base E:Nat} {ao:Option Addr} {n c:Nat} {zs:List Int} (h:Own w base E ao n c (zs.map (Value.int .i64))):cY w ao n zs:=by
 have hl:zs.length=n:=by have:=h.len;simpa using this
 refine ⟨hl,by have:=h.2;omega,fun hn=> ?_⟩
 obtain ⟨g,rfl,_,_,_,hc,_⟩:=h.form hn
 refine ⟨g,0,rfl,fun j hj=> ?_⟩
 rw [Nat.zero_add,hc j hj,List.getElem?_map,List.getElem?_eq_getElem (by omega),cG (by omega)];rfl
structure ET (P:Program) (S E:TypeId) (z:Value) (bytes:Nat):Prop where
 und:P.underlying S=some (.slice E)
 info:(P.info? E).map (fun i=>(i.zero,i.size,i.bytes))=some (some z,1,bytes)
 one:z.cells= #[z]
 small:bytes≤32
theorem iy {w w':World} (h:Below w.heap.size w w') (row:Option Nat):w.grownBy w' row:=⟨h.os,h.tape,h.output,h.size,fun i hi _=>h.block i hi⟩
theorem fa {a b c:World} {row:Option Nat} (h:a.grownBy b row) (k:b.grownBy c row):a.grownBy c row:=
 ⟨k.os.trans h.os,k.tape.trans h.tape,k.output.trans h.output,Nat.le_trans h.size k.size,fun i hi hne=>(k.block i (Nat.lt_of_lt_of_le hi h.size) hne).trans (h.block i hi hne)⟩
theorem below_drewN {B:Nat} {a w:World} (h:Below B a w) (n:Nat):Below B a (w.drewN n):=⟨h.os,h.tape,h.output,h.size,h.block⟩
theorem hH {B:Nat} {w w':World} (h:∃m,w'=w.drewN m):Below B w w':=by
 obtain ⟨m,rfl⟩:=h;exact below_drewN (Below.refl _ _) m
theorem ri {w:World} {base E g:Nat} {us:List Value} (hg:w.heap.size=g) (hb:base≤w.heap.size) (hn:us.length≤4398046511104):Own (w.alloc (.cells us.toArray E)) base E (some ⟨g,0,none⟩) us.length us.length us:=by
 subst hg
 exact ⟨by simpa using World.ownsRow_lit (e:=E) (size:=1) w us.toArray us.length hb (by simp [maxLen];omega) (by simp),hn⟩
section
variable {P:Program} {ops:Array Oper} {rest:List Oper} {o:Oper} {a:Act} {Q:Exit→Act→World→Prop}
theorem xl {S E:TypeId} {z:Value} {bytes:Nat} (et:ET P S E z bytes) (w:World) (hg:o.guard=none) (l c:Operand) (hop:o.op=Op.makeSlice S l c) (base:Nat)
  (kl kc:IntKind) (L C:Int) (n:Nat) (hl:a.eval l= .int kl L) (hc:a.eval c= .int kc C) (hL:L=(n:Int)) (hC:C=(n:Int)) (hn:n≤4398046511104) (hb:base≤w.heap.size)
  (hK:∀w',Own w' base E (some ⟨w.heap.size,0,none⟩) n n (List.replicate n z)→w.grownBy w' none→w'.heap.size=w.heap.size + 1→wpList P ops Q rest (a.put o.dst (.slice (some ⟨w.heap.size,0,none⟩) n n)) w'):
  wpList P ops Q (o :: rest) a w:=by
 obtain ⟨i,hi,hz,hs,hby⟩:=info_parts et.info
 refine wpList_plain hg fun K hK'=> ?_
 have hr:=run_make (P:=P) w S E i z et.und hi hz kl kc (n:Int) (n:Int) (by omega) (by omega) (by have:=et.small;rw [hby];have:(bytes:Int) * n≤32 * n:=Int.mul_le_mul_of_nonneg_right (by omega) (by omega);omega) (by omega)
 simp only [Int.toNat_natCast] at hr
 subst hL;subst hC
 unfold Oper.wp
 simp [execOp,hop,hl,hc,hr,Result.andThen]
 refine hK' _ _ (hK _ ⟨?_,hn⟩ (World.grownBy_alloc w _ none) (by simp))
 have:=World.ownsRow_lit (e:=E) (size:=i.size) w (madeCells z.cells (n * i.size)) n hb (by simp [maxLen];omega) (size_madeCells _ _)
 rw [hs,et.one,Nat.mul_one,toList_madeCells_one] at this
 rw [et.one,hs,Nat.mul_one]
 exact this
theorem lr {S E:TypeId} {z:Value} {bytes:Nat} (et:ET P S E z bytes) (w:World) (hg:o.guard=none) (s x:Operand) (ho:o.op= .call { callee:= .builtin .append,args:= #[s,x],argTypes:= #[S,S] })
  (base:Nat) (ao:Option Addr) (n c:Nat) (xs:List Value) (hs:a.eval s= .slice ao n c) (hown:Own w base E ao n c xs) (u:Value)
  (hx:a.eval x= .slice (some ⟨w.heap.size,0,none⟩) 1 1) (hu:u.oneCell'=true) (hn:n + 1≤4398046511104) (hbase:base≤w.heap.size)
  (hK:∀ao' c' w',Own w' base E ao' (n + 1) c' (xs ++ [u])→w.grownBy w' (bk ao)→(bk ao'=bk ao∨bk ao'=some (w.heap.size + 1))→wpList P ops Q rest (a.put o.dst (.slice ao' (n + 1) c')) w'):
  wpList P ops Q (o :: rest) a (w.alloc (.cells #[u] E)):=by
 obtain ⟨i,hi,hz,hsz,hby⟩:=info_parts et.info
 refine wpList_append_own_at _ hg s x S ho base E i z 1 bytes et.und hi hz hsz hby (by rw [et.one];rfl) (by omega) (.slice ao n c) n xs hs (hown.1.alloc _) ⟨w.heap.size,0,none⟩ 1 1 [u] hx rfl (cell_one_new _ _ _)
  (by intro v hv;simp at hv;subst hv;exact hu) (by simp [maxLen];omega) (by have:=et.small;have:(n + 1) * bytes≤(n + 1) * 32:=Nat.mul_le_mul_left _ this;omega) (by simp;omega) ?_
 intro v' w' h1 h2 _ h4
 rw [bN] at h2 h4
 obtain ⟨g,cap,rfl,hb,hlt⟩:=h1.form (by omega)
 refine hK _ _ _ ⟨h1,hn⟩ (fa (World.grownBy_alloc w _ _) h2) ?_
 rw [bN] at h4
 simpa using h4
theorem nR {S E:TypeId} {z:Value} {bytes:Nat} (et:ET P S E z bytes) (w:World) (hg:o.guard=none) (s x:Operand) (ho:o.op= .call { callee:= .builtin .append,args:= #[s,x],argTypes:= #[S,S] })
  (base:Nat) (ao:Option Addr) (n c:Nat) (xs:List Value) (hs:a.eval s= .slice ao n c) (hown:Own w base E ao n c xs) (ad:Option Addr) (m mc:Nat) (news:List Value)
  (hx:a.eval x= .slice ad m mc) (hr:Af w ad m news) (h1:∀u∈news,u.oneCell'=true) (hn:n + m≤4398046511104) (hbase:base≤w.heap.size)
  (hK:∀ao' c' w',Own w' base E ao' (n + m) c' (xs ++ news)→w.grownBy w' (bk ao)→(bk ao'=bk ao∨bk ao'=some w.heap.size)→wpList P ops Q rest (a.put o.dst (.slice ao' (n + m) c')) w'):
  wpList P ops Q (o :: rest) a w:=by
 obtain ⟨i,hi,hz,hsz,hby⟩:=info_parts et.info
 rcases Nat.eq_zero_or_pos m with h0 | h0
 ·subst h0
  have hz0:news= []:=List.eq_nil_of_length_eq_zero hr.1
  subst hz0
  cases ad with
  | none=>
   have hrun:(Builtin.append_ #[S,S] o.type #[.slice ao n c, .slice none 0 mc]).run P w= .ok (.slice ao n c) w:=by
    rcases hown.1.2 with ⟨hv,rfl⟩ | ⟨g,cap,cur,hv,_,_,hnc,_⟩
    ·rw [hv];simp [Builtin.append_,run_underlying et.und,sizeOf,typeInfo,hi,Builtin.lenOf,Builtin.firstCells]
    ·rw [hv];simp [Builtin.append_,run_underlying et.und,sizeOf,typeInfo,hi,Builtin.lenOf,Builtin.firstCells,hnc,storeCells]
   refine wpList_plain hg fun K hK'=> ?_
   unfold Oper.wp execOp
   simp only [ho,resolve,invoke,builtin,Sem.run_bind,Sem.run_pure,Result.andThen_ok,List.map_toArray,List.map_cons,List.map_nil,hs,hx,hrun]
   exact hK' _ _ (hK ao c w (by simpa using hown) (World.grownBy.refl w _) (.inl rfl))
  | some ad=>
   refine wpList_append_own_at _ hg s x S ho base E i z 1 bytes et.und hi hz hsz hby (by rw [et.one];rfl) (by omega) (.slice ao n c) n xs hs hown.1 ad 0 mc [] hx rfl (by intro j u hu;simp at hu)
    (by intro v hv;simp at hv) (by simp [maxLen];omega) (by have:=et.small;have:(n + 0) * bytes≤(n + 0) * 32:=Nat.mul_le_mul_left _ this;omega) hbase ?_
   intro v' w' h1 h2 h3 h4
   rw [bN] at h2 h4
   rcases h1.2 with ⟨rfl,hn0⟩ | ⟨g,cap,cur,rfl,_,_,_,_⟩
   ·have h5:=h3.1 rfl
    obtain ⟨h5,_⟩:=h5
    injection h5 with h5 h6 h7
    subst h5 h6 h7
    exact hK none 0 w' ⟨by simpa using h1,by omega⟩ h2 (.inl rfl)
   ·refine hK _ _ _ ⟨by simpa using h1,hn⟩ h2 ?_
    rw [bN] at h4;exact h4
 ·obtain ⟨b,off,rfl,hc⟩:=hr.2.2 h0
  have hl:=hr.1
  refine wpList_append_own_at _ hg s x S ho base E i z 1 bytes et.und hi hz hsz hby (by rw [et.one];rfl) (by omega) (.slice ao n c) n xs hs hown.1 ⟨b,off,none⟩ m mc news hx (by simp [hl])
   (by
    intro j u hu
    rw [Addr.add_lit];exact hc j u hu)
   h1 (by simp [maxLen];omega) (by have:=et.small;have:(n + m) * bytes≤(n + m) * 32:=Nat.mul_le_mul_left _ this;omega) hbase ?_
  intro v' w' h1 h2 _ h4
  rw [bN] at h2 h4
  obtain ⟨g,cap,rfl,hb,hlt⟩:=h1.form (by omega)
  refine hK _ _ _ ⟨h1,hn⟩ h2 ?_
  rw [bN] at h4
  simpa using h4
theorem lx {S E:TypeId} {z:Value} {bytes:Nat} (et:ET P S E z bytes) (w:World) (hg:o.guard=none) (s x:Operand) (ho:o.op= .call { callee:= .builtin .append,args:= #[s,x],argTypes:= #[S,S] })
  (base:Nat) (ao:Option Addr) (n c:Nat) (xs:List Value) (hs:a.eval s= .slice ao n c) (hown:Own w base E ao n c xs) (ad:Option Addr) (m mc:Nat) (zs:List Int)
  (hx:a.eval x= .slice ad m mc) (hr:cY w ad m zs) (hn:n + m≤4398046511104) (hbase:base≤w.heap.size)
  (hK:∀ao' c' w',Own w' base E ao' (n + m) c' (xs ++ zs.map (Value.int .i64))→w.grownBy w' (bk ao)→(bk ao'=bk ao∨bk ao'=some w.heap.size)→wpList P ops Q rest (a.put o.dst (.slice ao' (n + m) c')) w'):
  wpList P ops Q (o :: rest) a w:=
 nR et w hg s x ho base ao n c xs hs hown ad m mc (zs.map (Value.int .i64)) hx hr.bG (ints_oneCell _ _) hn hbase hK
end
structure eO (lo hi:Nat) (w w':World):Prop where
 os:w'.os=w.os
 tape:w'.tape=w.tape
 output:w'.output=w.output
 size:w.heap.size≤w'.heap.size
 block:∀k,k < w.heap.size→(k < lo∨hi≤k)→w'.heap[k]? =w.heap[k]?
theorem eO.below {lo hi:Nat} {w w':World} (h:eO lo hi w w') {B:Nat} (hB:B≤lo) (hw:B≤w.heap.size):Below B w w':=⟨h.os,h.tape,h.output,h.size,fun k hk=>h.block k (by omega) (.inl (by omega))⟩
theorem eO.refl (lo hi:Nat) (w:World):eO lo hi w w:=⟨rfl,rfl,rfl,Nat.le_refl _,fun _ _ _=>rfl⟩
theorem eO.trans {lo hi:Nat} {a b c:World} (h:eO lo hi a b) (k:eO lo hi b c):eO lo hi a c:=
 ⟨k.os.trans h.os,k.tape.trans h.tape,k.output.trans h.output,Nat.le_trans h.size k.size,fun i hi hd=>(k.block i (Nat.lt_of_lt_of_le hi h.size) hd).trans (h.block i hi hd)⟩
theorem Own.only {w w':World} {base E:Nat} {ao:Option Addr} {n c:Nat} {xs:List Value} {lo hi lo' hi':Nat} (h:Own w base E ao n c xs) (ho:eO lo hi w w') (hl:∀g,bk ao=some g→lo'≤g∧g < hi') (hd:hi'≤lo∨hi≤lo'):Own w' base E ao n c xs:=
 h.same fun g hg=>ho.block g (h.lt g hg).2 (by have:=hl g hg;omega)
theorem gg {k:IntKind} {a b:Int} (h:a=b):Ending.returned (.int k a)= .returned (.int k b):=by rw [h]
theorem bR {a b:Bool} (h:a=b):Ending.returned (.bool a)= .returned (.bool b):=by rw [h]
end Go.Proofs.Ytekbhbcgoadciaa
namespace Go.Proofs.Ytekbhbcgoadciaa
open Go.ChangeShapes Go.WideShapes Go.ChangeAt Go.RowKit Go.Deep
section
variable {H:Type} {enc:TypeId×Value→H} {P:Program}
theorem pV {f:Func} {s:ChangeSpec} {apart fresh handsOn again:Bool} {W W':World} {args:Array Value} {v:Value} {ds gs:List (DataW H)} {before pa pv:List MemPlace}
  (hW:DataW.Whole enc P f.params.toList s.vars apart W args.toList ds gs before)
  (hres:∀(b:Nat) (sp:Nat→Bool) (hd:Bool),DataW.TrodAll enc P W' b sp hd f.resultTypes.toList (v.resultList f.resultTypes.size) (s.fn H (ds ++ gs)).results [])
  (hargs:∀sp:Nat→Bool,(∀p∈before,sp p.block=true)→DataW.TrodAll enc P W' 0 sp true f.params.toList args.toList (s.fn H (ds ++ gs)).args pa)
  (hvars:∀sp:Nat→Bool,(∀p∈before,sp p.block=true)→DataW.TrodVars enc P W' sp s.vars (s.fn H (ds ++ gs)).vars pv)
  (hps:before=pa ++ pv) (hb:Below W.heap.size W W')
  (hok:∀(j:Nat) (t:TypeId) (r:Value),f.resultTypes[j]? =some t→(v.resultList f.resultTypes.size)[j]? =some r→Value.okWide P W' .any 0 t r):
  s.post enc P f apart fresh handsOn again W args v W':=by
 have hlt:∀p∈before,p.block < W.heap.size:=fun p hp=>hW.lt p hp
 have hold:∀p∈before,(fun b=>decide (b < W.heap.size)) p.block=true:=fun p hp=>by simpa using hlt p hp
 refine ⟨ds,gs,before, [],pa,pv,hW,hres _ _ _,hargs _ hold,hvars _ hold,World.keptBut_mono (fun p hp=>⟨hp, ?_⟩) (hb.frame (· ∈before)),fun _=> ?_⟩
 ·rw [hps,List.mem_append] at hp
  exact Or.inr hp
 ·obtain ⟨_,_,_,_,_,hz,hn⟩:=hW
  refine ⟨hok,_,_,([] ++ pa) ++ pv,⟨[] ++ pa,pv,trodAll_append (hargs _ (fun _ _=>rfl)) (hres _ _ _),hvars _ (fun _ _=>rfl),rfl, ?_, ?_⟩, ?_⟩
  ·intro b off hp
   have hin:MemPlace.cell b off∈before:=by rw [hps];simpa using hp
   rw [hb.frozen (hlt _ hin)]
   exact hz b off hin
  ·intro ha
   have:=hn ha
   rw [hps] at this
   simpa using this
  ·intro p hp _
   rw [hps]
   simpa using hp
theorem kS (hl:laidOutB P=true) {W W':World} (hb:Below W.heap.size W W') {sp:Nat→Bool} :∀(ts:List TypeId) (vs:List Value) (ds:List (DataW H)) (ps:List MemPlace),
  (∀t∈ts,P.readableRec t=true∧t < P.types.size)→(∀p∈ps,p.block < W.heap.size)→(∀p∈ps,sp p.block=true)→
  DataW.TrodAll enc P W 0 (fun _=>true) true ts vs ds ps→DataW.TrodAll enc P W' 0 sp true ts vs ds ps
 | [],vs,ds,ps,_,_,_,h=>by
  obtain ⟨rfl,rfl,rfl⟩:=trodAll_nil h
  exact trodAll_mk0
 | t :: ts,vs,ds,ps,ht,hlt,hsp,h=>by
  obtain ⟨v,vs',d,ds',p,q,rfl,rfl,rfl,h0,r0⟩:=trodAll_cons h
  exact trodAll_cons_mk (WideElems.Trod_stays hl (ht t (by simp)).1 (ht t (by simp)).2 h0 (fun x hx=>hb.same (hlt x (by simp [hx]))) (fun x hx=>hsp x (by simp [hx])))
   (kS hl hb ts vs' ds' q (fun t' h'=>ht t' (by simp [h'])) (fun p' hp=>hlt p' (by simp [hp])) (fun p' hp=>hsp p' (by simp [hp])) r0)
end
end Go.Proofs.Ytekbhbcgoadciaa
namespace Go.Proofs.Ytekbhbcgoadciaa
open Go.RowKit
def In (lo hi:Nat) (u:Value):Prop:=∀g,u.ownBlock=some g→lo≤g∧g < hi
theorem In.mono {lo hi lo' hi':Nat} {u:Value} (h:In lo hi u) (h1:lo'≤lo) (h2:hi≤hi'):In lo' hi' u:=fun g hg=>by have:=h g hg;omega
theorem oH {lo hi:Nat} {ao:Option Addr} {n c:Nat} (h:∀g,bk ao=some g→lo≤g∧g < hi):In lo hi (.slice ao n c):=fun g hg=>h g (by rw [bN] at hg;exact hg)
structure pt {D:Type} (Ow1:World→Value→D→Prop):Prop where
 loc:∀ {w w' u d},Ow1 w u d→(∀g,u.ownBlock=some g→w'.heap[g]? =w.heap[g]?)→Ow1 w' u d
 lt:∀ {w u d},Ow1 w u d→∀g,u.ownBlock=some g→g < w.heap.size
 one:∀ {w u d},Ow1 w u d→u.oneCell'=true
structure iC {D:Type} (Ow1:World→Value→D→Prop) (w:World) (lo hi E:Nat) (ao:Option Addr) (n c:Nat) (us:List Value) (ds:List D):Prop where
 own:Own w lo E ao n c us
 top:∀g,bk ao=some g→g < hi
 len:ds.length=n
 el:∀(j:Nat) (u:Value) (d:D),us[j]? =some u→ds[j]? =some d→Ow1 w u d
 rng:∀(j:Nat) (u:Value),us[j]? =some u→In lo hi u
 out:∀(j:Nat) (u:Value) (g:Nat),us[j]? =some u→u.ownBlock=some g→bk ao≠some g
 apart:∀(i j:Nat) (u u':Value) (g:Nat),i≠j→us[i]? =some u→us[j]? =some u'→u.ownBlock=some g→u'.ownBlock≠some g
section
variable {D:Type} {Ow1:World→Value→D→Prop} {w w':World} {lo hi E:Nat} {ao:Option Addr} {n c:Nat} {us:List Value} {ds:List D}
theorem iC.B8 (h:iC Ow1 w lo hi E ao n c us ds):us.length=n:=h.own.len
theorem iC.get (h:iC Ow1 w lo hi E ao n c us ds) {j:Nat} (hj:j < n):∃u d,us[j]? =some u∧ds[j]? =some d∧Ow1 w u d∧In lo hi u:=
 have h1:j < us.length:=by rw [h.B8];exact hj
 have h2:j < ds.length:=by rw [h.len];exact hj
 ⟨us[j],ds[j],List.getElem?_eq_getElem h1,List.getElem?_eq_getElem h2,h.el j _ _ (List.getElem?_eq_getElem h1) (List.getElem?_eq_getElem h2),h.rng j _ (List.getElem?_eq_getElem h1)⟩
theorem iC.same (I:pt Ow1) (h:iC Ow1 w lo hi E ao n c us ds) (hs:∀g,lo≤g→g < hi→g < w.heap.size→w'.heap[g]? =w.heap[g]?):iC Ow1 w' lo hi E ao n c us ds:=
 {own:=h.own.same fun g hg=>hs g (h.own.lt g hg).1 (h.top g hg) (h.own.lt g hg).2,top:=h.top,len:=h.len,rng:=h.rng,out:=h.out,apart:=h.apart,el:=fun j u d hu hd=>I.loc (h.el j u d hu hd) fun g hg=>hs g (h.rng j u hu g hg).1 (h.rng j u hu g hg).2 (I.lt (h.el j u d hu hd) g hg) }
theorem iC.below (I:pt Ow1) (h:iC Ow1 w lo hi E ao n c us ds) (hb:Below w.heap.size w w'):iC Ow1 w' lo hi E ao n c us ds:=h.same I fun g _ _ hg=>hb.block g hg
theorem iC.only (I:pt Ow1) (h:iC Ow1 w lo hi E ao n c us ds) {l k:Nat} (ho:eO l k w w') (hd:hi≤l∨k≤lo):iC Ow1 w' lo hi E ao n c us ds:=
 h.same I fun g h1 h2 hg=>ho.block g hg (by omega)
theorem iC.mono (h:iC Ow1 w lo hi E ao n c us ds) {lo' hi':Nat} (h1:lo'≤lo) (h2:hi≤hi'):iC Ow1 w lo' hi' E ao n c us ds:=
 {own:=h.own.mono h1,top:=fun g hg=>Nat.lt_of_lt_of_le (h.top g hg) h2,len:=h.len,el:=h.el,out:=h.out,apart:=h.apart,rng:=fun j u hu=>(h.rng j u hu).mono h1 h2 }
theorem iC.put (I:pt Ow1) {g0:Nat} (h:iC Ow1 w lo hi E (some ⟨g0,0,none⟩) n c us ds) {j:Nat} {u u':Value} {d':D} (hu:us[j]? =some u) (hg:w.grownBy w' u.ownBlock) (h':Ow1 w' u' d')
  (hnew:u'.ownBlock=none∨u'.ownBlock=u.ownBlock∨∃g,u'.ownBlock=some g∧w.heap.size≤g) (hhi:hi≤w.heap.size) (hlo:lo≤w.heap.size):
  iC Ow1 (w'.setCell ⟨g0,j,none⟩ u') lo w'.heap.size E (some ⟨g0,0,none⟩) n c (us.set j u') (ds.set j d'):=by
 have hjl:j < us.length:=(List.getElem?_eq_some_iff.1 hu).1
 have hown:Own w' lo E (some ⟨g0,0,none⟩) n c us:=h.own.kept hg (by
  cases hb:u.ownBlock with
  | none=>exact .inr (by simp [bk])
  | some g=>exact .inr (h.out j u g hu hb))
 have hlt':∀g,u'.ownBlock=some g→g≠g0:=by
  intro g hgg e
  subst e
  rcases hnew with hn | hn | ⟨g',hn,hge⟩
  ·rw [hn] at hgg;cases hgg
  ·rw [hn] at hgg;exact h.out j u g hu hgg rfl
  ·rw [hn] at hgg;obtain rfl:=Option.some.inj hgg
   have:=(h.own.lt g' rfl).2
   omega
 have hset:∀g,g≠g0→(w'.setCell ⟨g0,j,none⟩ u').heap[g]? =w'.heap[g]? :=fun g hne=>Below.heap_setCell _ _ _ _ hne
 have hsz:=hg.size
 refine { own:=(hown.stored j u').1,top:=fun g hgg=>Nat.lt_of_lt_of_le (h.top g hgg) (Nat.le_trans hhi hsz),len:=by rw [List.length_set];exact h.len,el:= ?_,rng:= ?_,out:= ?_,apart:= ?_ }
 ·intro i v d hv hd
  by_cases hij:j=i
  ·subst hij
   rw [List.getElem?_set_self hjl] at hv
   obtain rfl:=Option.some.inj hv
   rw [List.getElem?_set_self'] at hd
   cases hdd:ds[j]? with
   | none=>rw [hdd] at hd;cases hd
   | some x=>
    rw [hdd] at hd;simp at hd;subst hd
    exact I.loc h' fun g hgg=>hset g (hlt' g hgg)
  ·rw [List.getElem?_set_ne hij] at hd hv
   have h1:Ow1 w' v d:=I.loc (h.el i v d hv hd) fun g hgg=>hg.block g (I.lt (h.el i v d hv hd) g hgg) fun e=>h.apart i j v u g (fun e=>hij e.symm) hv hu hgg e.symm
   exact I.loc h1 fun g hgg=>hset g fun e=>by subst e;exact h.out i v g hv hgg rfl
 ·intro i v hv
  by_cases hij:j=i
  ·subst hij
   rw [List.getElem?_set_self hjl] at hv
   obtain rfl:=Option.some.inj hv
   intro g hgg
   refine ⟨?_,I.lt h' g hgg⟩
   rcases hnew with hn | hn | ⟨g',hn,hge⟩
   ·rw [hn] at hgg;cases hgg
   ·rw [hn] at hgg;exact (h.rng j u hu g hgg).1
   ·rw [hn] at hgg;obtain rfl:=Option.some.inj hgg;omega
  ·rw [List.getElem?_set_ne hij] at hv
   exact (h.rng i v hv).mono (Nat.le_refl _) (Nat.le_trans hhi hsz)
 ·intro i v g hv hgg
  by_cases hij:j=i
  ·subst hij
   rw [List.getElem?_set_self hjl] at hv
   obtain rfl:=Option.some.inj hv
   intro e
   exact hlt' g hgg (Option.some.inj e).symm
  ·rw [List.getElem?_set_ne hij] at hv
   exact h.out i v g hv hgg
 ·intro i k v v' g hik hv hv' hgg
  have key:∀x vx,j≠x→us[x]? =some vx→∀g,u'.ownBlock=some g→vx.ownBlock≠some g:=by
   intro x vx hx hvx g hgg' e
   rcases hnew with hn | hn | ⟨g',hn,hge⟩
   ·rw [hn] at hgg';cases hgg'
   ·rw [hn] at hgg';exact h.apart j x u vx g hx hu hvx hgg' e
   ·rw [hn] at hgg';obtain rfl:=Option.some.inj hgg'
    have:=(h.rng x vx hvx g' e).2
    omega
  by_cases hi':j=i
  ·subst hi'
   rw [List.getElem?_set_self hjl] at hv
   obtain rfl:=Option.some.inj hv
   rw [List.getElem?_set_ne hik] at hv'
   exact key k v' hik hv' g hgg
  ·rw [List.getElem?_set_ne hi'] at hv
   by_cases hk':j=k
   ·subst hk'
    rw [List.getElem?_set_self hjl] at hv'
    obtain rfl:=Option.some.inj hv'
    exact fun e=>key i v hi' hv g e hgg
   ·rw [List.getElem?_set_ne hk'] at hv'
    exact h.apart i k v v' g hik hv hv' hgg
theorem iC.jL (h:Own w lo E ao 0 c []) (hhi:∀g,bk ao=some g→g < hi):iC Ow1 w lo hi E ao 0 c [] []:=
 {own:=h,top:=hhi,len:=rfl,el:=fun j u d hj _=>by simp at hj,rng:=fun j u hj=>by simp at hj,out:=fun j u g hj=>by simp at hj,apart:=fun i j u u' g _ hi=>by simp at hi }
theorem iC.push (I:pt Ow1) (h:iC Ow1 w lo hi E ao n c us ds) {ao':Option Addr} {c' hi':Nat} {u:Value} {d:D} (hown:Own w' lo E ao' (n + 1) c' (us ++ [u])) (hg:w.grownBy w' (bk ao)) (hu:Ow1 w' u d) (hur:In lo hi' u)
  (hao:∀g,bk ao'=some g→g < hi') (hhi:hi≤hi') (hnew:∀g,bk ao'=some g→(bk ao=some g∨∀(j:Nat) (u:Value),us[j]? =some u→u.ownBlock≠some g))
  (hua:∀g,u.ownBlock=some g→bk ao'≠some g∧∀(j:Nat) (v:Value),us[j]? =some v→v.ownBlock≠some g):iC Ow1 w' lo hi' E ao' (n + 1) c' (us ++ [u]) (ds ++ [d]):=by
 have hul:us.length=n:=h.B8
 have split1:∀ {j v},(us ++ [u])[j]? =some v→(us[j]? =some v∧j < n)∨(j=n∧v=u):=by
  intro j v hj
  rw [List.getElem?_append] at hj
  split at hj
  ·exact .inl ⟨hj,by omega⟩
  ·rw [hul] at hj
   cases hjn:j - n with
   | zero=>rw [hjn] at hj;simp at hj;exact .inr ⟨by omega,hj.symm⟩
   | succ k=>rw [hjn] at hj;simp at hj
 refine { own:=hown,top:=hao,len:=by rw [List.length_append,h.len];rfl,el:= ?_,rng:= ?_,out:= ?_,apart:= ?_ }
 ·intro j v x hv hx
  rcases split1 hv with ⟨h1,hj⟩ | ⟨rfl,rfl⟩
  ·rw [List.getElem?_append_left (by rw [h.len];exact hj)] at hx
   refine I.loc (h.el j v x h1 hx) fun g hgg=>hg.block g (I.lt (h.el j v x h1 hx) g hgg) fun e=>h.out j v g h1 hgg e.symm
  ·rw [List.getElem?_append_right (by rw [h.len];exact Nat.le_refl _),h.len,Nat.sub_self] at hx
   simp at hx;subst hx;exact hu
 ·intro j v hv
  rcases split1 hv with ⟨h1,hj⟩ | ⟨rfl,rfl⟩
  ·exact (h.rng j v h1).mono (Nat.le_refl _) hhi
  ·exact hur
 ·intro j v g hv hgg
  rcases split1 hv with ⟨h1,hj⟩ | ⟨rfl,rfl⟩
  ·intro e
   rcases hnew g e with h2 | h2
   ·exact h.out j v g h1 hgg h2
   ·exact h2 j v h1 hgg
  ·exact (hua g hgg).1
 ·intro i j v v' g hij hv hv' hgg
  rcases split1 hv with ⟨h1,hi1⟩ | ⟨rfl,rfl⟩
  ·rcases split1 hv' with ⟨h2,hj1⟩ | ⟨rfl,rfl⟩
   ·exact h.apart i j v v' g hij h1 h2 hgg
   ·exact fun e=>(hua g e).2 i v h1 hgg
  ·rcases split1 hv' with ⟨h2,hj1⟩ | ⟨rfl,_⟩
   ·exact (hua g hgg).2 j v' h2
   ·exact absurd rfl hij
theorem iC.lit (I:pt Ow1) (hlo:lo≤w.heap.size) (hhi:hi≤w.heap.size) (hl:us.length=n) (hd:ds.length=n) (hn:n≤4398046511104) (hel:∀(j:Nat) (u:Value) (d:D),us[j]? =some u→ds[j]? =some d→Ow1 w u d) (hr:∀(j:Nat) (u:Value),us[j]? =some u→In lo hi u)
  (ha:∀(i j:Nat) (u u':Value) (g:Nat),i≠j→us[i]? =some u→us[j]? =some u'→u.ownBlock=some g→u'.ownBlock≠some g):
  iC Ow1 (w.alloc (.cells us.toArray E)) lo (w.heap.size + 1) E (some ⟨w.heap.size,0,none⟩) n n us ds:=
 {own:=⟨by simpa using World.ownsRow_lit (e:=E) (size:=1) w us.toArray n hlo (by simp [maxLen];omega) (by simpa using hl),hn⟩,top:=fun g hg=>by simp [bk] at hg;omega,len:=hd,el:=fun j u d hu hdd=>I.loc (hel j u d hu hdd) fun g hg=>Below.heap_alloc w _ g (I.lt (hel j u d hu hdd) g hg),rng:=fun j u hu=>(hr j u hu).mono (Nat.le_refl _) (by omega),out:=fun j u g hu hg e=>by
   have:=(hr j u hu g hg).2
   simp [bk] at e
   omega,apart:=ha }
theorem iC.cell {g0:Nat} (h:iC Ow1 w lo hi E (some ⟨g0,0,none⟩) n c us ds) {j:Nat} {u:Value} (hu:us[j]? =some u):w.cell? ⟨g0,j,none⟩=some u:=by
 have hj:j < n:=by have:=(List.getElem?_eq_some_iff.1 hu).1;rw [h.B8] at this;exact this
 obtain ⟨g',hg,_,_,_,hc,_⟩:=h.own.form (by omega)
 obtain rfl:g0=g':=by injection hg with hg;injection hg
 rw [hc j hj,hu]
end
def bu {α:Type} (zss:List (List α)) (k:Nat):List α:=zss.getD k []
theorem lV {α:Type} {zss:List (List α)} {k:Nat} (h:k < zss.length):bu zss k=zss[k]:=by simp [bu,h]
theorem wL {α:Type} {zss:List (List α)} {k:Nat} {z:List α} (h:zss[k]? =some z):bu zss k=z:=by simp [bu,h]
theorem gO {α:Type} {zss:List (List α)} {k:Nat} (h:k < zss.length):zss.take (k + 1)=zss.take k ++ [bu zss k]:=by rw [List.take_succ_eq_append_getElem h,lV h]
theorem fD {α:Type} {zss:List (List α)} {k:Nat} (h:k < zss.length):bu zss k∈zss:=by rw [lV h];exact List.getElem_mem h
def B0 (w:World) (v:Value) (zs:List Int):Prop:=∃ao n c,v= .slice ao n c∧cY w ao n zs
def pL (E:Nat) (w:World) (v:Value) (zs:List Int):Prop:=∃ao n c,v= .slice ao n c∧Own w 0 E ao n c (zs.map (Value.int .i64))
theorem pL.rd {E:Nat} {w:World} {v:Value} {zs:List Int} (h:pL E w v zs):B0 w v zs:=by
 obtain ⟨ao,n,c,rfl,ho⟩:=h
 exact ⟨ao,n,c,rfl,ho.ints⟩
theorem dD (E:Nat):pt (pL E):=
 {loc:=fun {w w' u d} h hs=>by
   obtain ⟨ao,n,c,rfl,ho⟩:=h
   exact ⟨ao,n,c,rfl,ho.same fun g hg=>hs g (by rw [bN];exact hg)⟩,lt:=fun {w u d} h g hg=>by
   obtain ⟨ao,n,c,rfl,ho⟩:=h
   rw [bN] at hg
   exact (ho.lt g hg).2,one:=fun {w u d} h=>by obtain ⟨ao,n,c,rfl,_⟩:=h;rfl }
theorem B0.below {w w':World} {v:Value} {zs:List Int} (h:B0 w v zs) (hb:Below w.heap.size w w'):B0 w' v zs:=by
 obtain ⟨ao,n,c,rfl,hi⟩:=h
 exact ⟨ao,n,c,rfl,hi.below hb⟩
def fx (w:World) (ao:Option Addr) (n:Nat) (zss:List (List Int)):Prop:=
 zss.length=n∧n≤17592186044416∧(0 < n→∃b off,ao=some ⟨b,off,none⟩∧∀j,j < n→∃u,w.cell? ⟨b,off + j,none⟩=some u∧B0 w u (bu zss j))
theorem fx.at_ {w:World} {ao:Option Addr} {n:Nat} {zss:List (List Int)} (h:fx w ao n zss) {k:Nat} (hk:k < n):
  ∃b off a' n' c',ao=some ⟨b,off,none⟩∧w.cell? ⟨b,off + k,none⟩=some (.slice a' n' c')∧cY w a' n' (bu zss k):=by
 obtain ⟨b,off,e,hc⟩:=h.2.2 (by omega)
 obtain ⟨u,h1,a',n',c',rfl,h2⟩:=hc k hk
 exact ⟨b,off,a',n',c',e,h1,h2⟩
theorem fx.drewN {w:World} {ao:Option Addr} {n:Nat} {zss:List (List Int)} (h:fx w ao n zss) (m:Nat):fx (w.drewN m) ao n zss:=h
theorem fx.below {w w':World} {ao:Option Addr} {n:Nat} {zss:List (List Int)} (h:fx w ao n zss) (hb:Below w.heap.size w w'):fx w' ao n zss:=by
 refine ⟨h.1,h.2.1,fun hn=> ?_⟩
 obtain ⟨b,off,rfl,hc⟩:=h.2.2 hn
 refine ⟨b,off,rfl,fun j hj=> ?_⟩
 obtain ⟨u,h1,h2⟩:=hc j hj
 exact ⟨u,(hb.cell (p:=⟨b,off + j,none⟩) (World.block_lt_of_cell? w _ h1)).trans h1,h2.below hb⟩
theorem fx.zx (w:World) (ao:Option Addr):fx w ao 0 []:=⟨rfl,by omega,fun h=>absurd h (by omega)⟩
theorem iC.zI {E1:Nat} {w:World} {lo hi E:Nat} {ao:Option Addr} {n c:Nat} {us:List Value} {zss:List (List Int)} (h:iC (pL E1) w lo hi E ao n c us zss):fx w ao n zss:=by
 refine ⟨h.len,by have:=h.own.2;omega,fun hn=> ?_⟩
 obtain ⟨g,rfl,_,_,_,_,_⟩:=h.own.form hn
 refine ⟨g,0,rfl,fun j hj=> ?_⟩
 obtain ⟨u,d,hu,hd,h1,_⟩:=h.get hj
 refine ⟨u,by rw [Nat.zero_add];exact h.cell hu, ?_⟩
 rw [wL hd];exact h1.rd
def Ao (w:World) (v:Value) (zss:List (List Int)):Prop:=∃ao n c,v= .slice ao n c∧fx w ao n zss
def jR (E1 E:Nat) (w:World) (lo hi:Nat) (v:Value) (zss:List (List Int)):Prop:=∃ao n c us,v= .slice ao n c∧iC (pL E1) w lo hi E ao n c us zss
theorem jR.rd {E1 E:Nat} {w:World} {lo hi:Nat} {v:Value} {zss:List (List Int)} (h:jR E1 E w lo hi v zss):Ao w v zss:=by
 obtain ⟨ao,n,c,us,rfl,ho⟩:=h
 exact ⟨ao,n,c,rfl,ho.zI⟩
theorem jR.below {E1 E:Nat} {w w':World} {lo hi:Nat} {v:Value} {zss:List (List Int)} (h:jR E1 E w lo hi v zss) (hb:Below w.heap.size w w'):jR E1 E w' lo hi v zss:=by
 obtain ⟨ao,n,c,us,rfl,ho⟩:=h
 exact ⟨ao,n,c,us,rfl,ho.below (dD E1) hb⟩
theorem jR.only {E1 E:Nat} {w w':World} {lo hi:Nat} {v:Value} {zss:List (List Int)} (h:jR E1 E w lo hi v zss) {l k:Nat} (ho:eO l k w w') (hd:hi≤l∨k≤lo):jR E1 E w' lo hi v zss:=by
 obtain ⟨ao,n,c,us,rfl,h1⟩:=h
 exact ⟨ao,n,c,us,rfl,h1.only (dD E1) ho hd⟩
theorem jR.mono {E1 E:Nat} {w:World} {lo hi lo' hi':Nat} {v:Value} {zss:List (List Int)} (h:jR E1 E w lo hi v zss) (h1:lo'≤lo) (h2:hi≤hi'):jR E1 E w lo' hi' v zss:=by
 obtain ⟨ao,n,c,us,rfl,ho⟩:=h
 exact ⟨ao,n,c,us,rfl,ho.mono h1 h2⟩
theorem Ao.below {w w':World} {v:Value} {zss:List (List Int)} (h:Ao w v zss) (hb:Below w.heap.size w w'):Ao w' v zss:=by
 obtain ⟨ao,n,c,rfl,hi⟩:=h
 exact ⟨ao,n,c,rfl,hi.below hb⟩
def jD (E:Nat) (w:World) (lo hi:Nat) (v:Value) (zs:List Int):Prop:=pL E w v zs∧In lo hi v
theorem jD.rd {E:Nat} {w:World} {lo hi:Nat} {v:Value} {zs:List Int} (h:jD E w lo hi v zs):B0 w v zs:=h.1.rd
theorem jD.below {E:Nat} {w w':World} {lo hi:Nat} {v:Value} {zs:List Int} (h:jD E w lo hi v zs) (hb:Below w.heap.size w w'):jD E w' lo hi v zs:=
 ⟨(dD E).loc h.1 fun g hg=>hb.block g ((dD E).lt h.1 g hg),h.2⟩
theorem jD.only {E:Nat} {w w':World} {lo hi:Nat} {v:Value} {zs:List Int} (h:jD E w lo hi v zs) {l k:Nat} (ho:eO l k w w') (hd:hi≤l∨k≤lo):jD E w' lo hi v zs:=
 ⟨(dD E).loc h.1 fun g hg=>ho.block g ((dD E).lt h.1 g hg) (by have:=h.2 g hg;omega),h.2⟩
theorem jD.of {E:Nat} {w:World} {base:Nat} {ao:Option Addr} {n c:Nat} {zs:List Int} (h:Own w base E ao n c (zs.map (Value.int .i64))):jD E w base w.heap.size (.slice ao n c) zs:=
 ⟨⟨ao,n,c,rfl,h.mono (Nat.zero_le _)⟩,oH h.lt⟩
def marks (k:Int) (n:Nat):List Int:=(List.range n).map fun j:Nat=>k + (j:Int)
def Dl (w:World) (v:Value) (zss:List (List Int)):Prop:=∃ao n c,v= .agg #[.slice ao n c]∧fx w ao n zss
def wV (E1 E:Nat) (w:World) (lo hi:Nat) (v:Value) (zss:List (List Int)):Prop:=∃ao n c us,v= .agg #[.slice ao n c]∧iC (pL E1) w lo hi E ao n c us zss
theorem wV.rd {E1 E:Nat} {w:World} {lo hi:Nat} {v:Value} {zss:List (List Int)} (h:wV E1 E w lo hi v zss):Dl w v zss:=by
 obtain ⟨ao,n,c,us,rfl,ho⟩:=h
 exact ⟨ao,n,c,rfl,ho.zI⟩
theorem wV.below {E1 E:Nat} {w w':World} {lo hi:Nat} {v:Value} {zss:List (List Int)} (h:wV E1 E w lo hi v zss) (hb:Below w.heap.size w w'):wV E1 E w' lo hi v zss:=by
 obtain ⟨ao,n,c,us,rfl,ho⟩:=h
 exact ⟨ao,n,c,us,rfl,ho.below (dD E1) hb⟩
theorem wV.only {E1 E:Nat} {w w':World} {lo hi:Nat} {v:Value} {zss:List (List Int)} (h:wV E1 E w lo hi v zss) {l k:Nat} (ho:eO l k w w') (hd:hi≤l∨k≤lo):wV E1 E w' lo hi v zss:=by
 obtain ⟨ao,n,c,us,rfl,h1⟩:=h
 exact ⟨ao,n,c,us,rfl,h1.only (dD E1) ho hd⟩
theorem wV.mono {E1 E:Nat} {w:World} {lo hi lo' hi':Nat} {v:Value} {zss:List (List Int)} (h:wV E1 E w lo hi v zss) (h1:lo'≤lo) (h2:hi≤hi'):wV E1 E w lo' hi' v zss:=by
 obtain ⟨ao,n,c,us,rfl,ho⟩:=h
 exact ⟨ao,n,c,us,rfl,ho.mono h1 h2⟩
theorem Dl.below {w w':World} {v:Value} {zss:List (List Int)} (h:Dl w v zss) (hb:Below w.heap.size w w'):Dl w' v zss:=by
 obtain ⟨ao,n,c,rfl,hi⟩:=h
 exact ⟨ao,n,c,rfl,hi.below hb⟩
abbrev dy:Type:=Int×List (List Int)
def zc (w:World) (v:Value) (d:dy):Prop:=∃ao n c,v= .agg #[.int .i64 d.1, .slice ao n c]∧fx w ao n d.2
def sf (E1 E:Nat) (w:World) (lo hi:Nat) (v:Value) (d:dy):Prop:=∃ao n c us,v= .agg #[.int .i64 d.1, .slice ao n c]∧iC (pL E1) w lo hi E ao n c us d.2
theorem sf.rd {E1 E:Nat} {w:World} {lo hi:Nat} {v:Value} {d:dy} (h:sf E1 E w lo hi v d):zc w v d:=by
 obtain ⟨ao,n,c,us,rfl,ho⟩:=h
 exact ⟨ao,n,c,rfl,ho.zI⟩
theorem sf.below {E1 E:Nat} {w w':World} {lo hi:Nat} {v:Value} {d:dy} (h:sf E1 E w lo hi v d) (hb:Below w.heap.size w w'):sf E1 E w' lo hi v d:=by
 obtain ⟨ao,n,c,us,rfl,ho⟩:=h
 exact ⟨ao,n,c,us,rfl,ho.below (dD E1) hb⟩
theorem sf.only {E1 E:Nat} {w w':World} {lo hi:Nat} {v:Value} {d:dy} (h:sf E1 E w lo hi v d) {l k:Nat} (ho:eO l k w w') (hd:hi≤l∨k≤lo):sf E1 E w' lo hi v d:=by
 obtain ⟨ao,n,c,us,rfl,h1⟩:=h
 exact ⟨ao,n,c,us,rfl,h1.only (dD E1) ho hd⟩
theorem zc.below {w w':World} {v:Value} {d:dy} (h:zc w v d) (hb:Below w.heap.size w w'):zc w' v d:=by
 obtain ⟨ao,n,c,rfl,hi⟩:=h
 exact ⟨ao,n,c,rfl,hi.below hb⟩
theorem dW {w W W':World} (k:Below W.heap.size W W') (h:Below w.heap.size w W):Below w.heap.size w W':=h.trans (k.mono h.size)
theorem th (w:World):Below w.heap.size w w.drew:=(Below.refl _ _).drew
theorem wV.form {E1 E:Nat} {w:World} {lo hi:Nat} {v:Value} {zss:List (List Int)} (h:wV E1 E w lo hi v zss):∃ao n c,v= .agg #[.slice ao n c]:=by
 obtain ⟨ao,n,c,us,rfl,_⟩:=h
 exact ⟨ao,n,c,rfl⟩
theorem sf.form {E1 E:Nat} {w:World} {lo hi:Nat} {v:Value} {d:dy} (h:sf E1 E w lo hi v d):∃ao n c,v= .agg #[.int .i64 d.1, .slice ao n c]:=by
 obtain ⟨ao,n,c,us,rfl,_⟩:=h
 exact ⟨ao,n,c,rfl⟩
theorem below_alloc1 (w:World) (o:Obj):Below w.heap.size w (w.alloc o):=(Below.refl _ _).alloc (Nat.le_refl _) o
theorem below_alloc2 (w:World) (o o':Obj):Below w.heap.size w ((w.alloc o).alloc o'):=(below_alloc1 w o).alloc (by simp) o'
def gF (w:World) (g:Nat) (t:TypeId) (cs:Array Value):Prop:=w.heap[g]? =some (.cells cs t (0,0))
theorem gF.lt {w:World} {g:Nat} {t:TypeId} {cs:Array Value} (h:gF w g t cs):g < w.heap.size:=by
 rcases Nat.lt_or_ge g w.heap.size with hlt | hge
 ·exact hlt
 ·unfold gF at h;rw [Array.getElem?_eq_none hge] at h;cases h
theorem gF.cell {w:World} {g:Nat} {t:TypeId} {cs:Array Value} (h:gF w g t cs) (i:Nat):w.cell? ⟨g,i,none⟩=cs[i]? :=cell_of_row w g i cs t (0,0) h
theorem gF.frozen {w:World} {g:Nat} {t:TypeId} {cs:Array Value} (h:gF w g t cs) (i:Nat):w.frozen? ⟨g,i,none⟩=false:=by
 unfold gF at h;simp [World.frozen?,h]
theorem gF.new (w:World) (t:TypeId) (cs:Array Value):gF (w.alloc (.cells cs t)) w.heap.size t cs:=heap_alloc_new w _
theorem fU {w:World} {t:TypeId} {cs:Array Value} {k:Nat} (h:w.heap.size=k):gF (w.alloc (.cells cs t)) k t cs:=h ▸ gF.new w t cs
theorem gF.alloc {w:World} {g:Nat} {t:TypeId} {cs:Array Value} (h:gF w g t cs) (o:Obj):gF (w.alloc o) g t cs:=(Below.heap_alloc w o g h.lt).trans h
theorem gF.pW {w:World} {g:Nat} {t:TypeId} {cs:Array Value} (h:gF w g t cs) (i:Nat) (u:Value):gF (w.setCell ⟨g,i,none⟩ u) g t (cs.setIfInBounds i u):=by
 unfold gF at h ⊢
 simp [World.setCell,Array.getElem?_modify,h]
theorem gF.DH {w:World} {g:Nat} {t:TypeId} {cs:Array Value} (h:gF w g t cs) {p:Addr} (hp:g≠p.block) (u:Value):gF (w.setCell p u) g t cs:=(Below.heap_setCell w p u g hp).trans h
theorem gF.below {w w':World} {g:Nat} {t:TypeId} {cs:Array Value} {B:Nat} (h:gF w g t cs) (hb:Below B w w') (hg:g < B):gF w' g t cs:=(hb.block g hg).trans h
theorem gF.gA {w w':World} {g:Nat} {t:TypeId} {cs:Array Value} (h:gF w g t cs) (hb:Below w.heap.size w w'):gF w' g t cs:=h.below hb h.lt
theorem gF.only {w w':World} {g:Nat} {t:TypeId} {cs:Array Value} {lo hi:Nat} (h:gF w g t cs) (ho:eO lo hi w w') (hg:g < lo∨hi≤g):gF w' g t cs:=(ho.block g h.lt hg).trans h
theorem gF.drewN {w:World} {g:Nat} {t:TypeId} {cs:Array Value} (h:gF w g t cs) (m:Nat):gF (w.drewN m) g t cs:=h
end Go.Proofs.Ytekbhbcgoadciaa
namespace Go.Proofs.Ytekbhbcgoadciaa
open Go.RowKit
def ya (w:World) (ao:Option Addr) (n:Nat) (hi:Nat):Prop:=n≤281474976710656∧(0 < n→∃b off,ao=some ⟨b,off,none⟩∧b < hi∧∀j,j < n→∃x:Nat,x < 256∧w.cell? ⟨b,off + j,none⟩=some (.int .u8 x))
structure Src (w:World) (sb:Nat):Prop where
 box:∃(ao:Option Addr) (n c k h:Nat),gF w sb 51 #[.slice ao n c, .int .i64 k, .int .u64 h]∧h < 18446744073709551616∧k≤n∧ya w ao n sb
theorem ya.only {w w':World} {ao:Option Addr} {n hi:Nat} {lo h2:Nat} (h:ya w ao n hi) (ho:eO lo h2 w w') (hl:hi≤lo):ya w' ao n hi:=by
 refine ⟨h.1,fun hn=> ?_⟩
 obtain ⟨b,off,e,hb,hc⟩:=h.2 hn
 refine ⟨b,off,e,hb,fun j hj=> ?_⟩
 obtain ⟨x,hx,hcx⟩:=hc j hj
 exact ⟨x,hx,(World.cell?_of_block (ho.block b (World.block_lt_of_cell? w _ hcx) (.inl (by omega)))).trans hcx⟩
theorem Src.only {w w':World} {sb lo hi:Nat} (h:Src w sb) (ho:eO lo hi w w') (hl:sb < lo):Src w' sb:=by
 obtain ⟨ao,n,c,k,hh,h1,h2,h3,h4⟩:=h.box
 exact ⟨ao,n,c,k,hh,h1.only ho (.inl hl),h2,h3,h4.only ho (by omega)⟩
theorem iN (a:Int):∃H:Nat,H < 18446744073709551616∧IntKind.u64.wrap a=(H:Int):=by
 rw [IntKind.wrap_u64]
 exact ⟨(a % 18446744073709551616).toNat,by omega,by omega⟩
theorem CM (a:Int):∃X:Nat,X≤16777215∧wrap64 (bits .and .u64 a 16777215)=(X:Int):=by
 refine ⟨(BitVec.ofInt 64 a &&& BitVec.ofInt 64 16777215).toNat, ?_, ?_⟩
 ·rw [BitVec.toNat_and]
  exact Nat.le_trans Nat.and_le_right (by decide)
 ·have h:(BitVec.ofInt 64 a &&& BitVec.ofInt 64 16777215).toNat≤16777215:=by rw [BitVec.toNat_and];exact Nat.le_trans Nat.and_le_right (by decide)
  show wrap64 (IntKind.u64.wrap ((BitVec.ofInt 64 a &&& BitVec.ofInt 64 16777215).toNat:Int))=_
  rw [IntKind.wrap_u64]
  generalize (BitVec.ofInt 64 a &&& BitVec.ofInt 64 16777215).toNat=Y at *
  unfold wrap64
  omega
theorem zZ (w:World) (sb i:Nat) (v:Value) {w':World} (h:w'=w.setCell ⟨sb,i,none⟩ v:=by rfl):eO sb (sb + 1) w w':=by
 subst h
 exact ⟨rfl,rfl,rfl,by simp [World.setCell],fun k hk hd=>Below.heap_setCell _ _ _ _ (by show k≠sb;omega)⟩
set_option maxHeartbeats 3200000 in
theorem ie (sb:Nat) (z:Int) (w:World) (h:Src w sb) (hz: -4611686018427387904≤z∧z≤4611686018427387904):
  Calls Try.prog 13 #[.pointer (some ⟨sb,0,none⟩), .int .i64 z] w fun e w'=>∃r:Nat,e= .returned (.int .i64 r)∧(z < 1→r=0)∧(1≤z→(r:Int) < z)∧Src w' sb∧eO sb (sb + 1) w w':=by
 obtain ⟨ao,n,c,k,hh,hB,h2,h3,h4⟩:=h.box
 have x0:=hB.cell 0
 have x1:=hB.cell 1
 have x2:=hB.cell 2
 have f1:=hB.frozen 1
 have f2:=hB.frozen 2
 simp at x0 x1 x2
 by_cases hz1:z < 1
 ·have e0:decide (z < 1)=true:=by simp [hz1]
  go_enter Try.func13,Try.ntmps13
  go_wp2
  go_ret
  exact ⟨0,rfl,fun _=>rfl,fun h=>by omega,h,eO.refl _ _ _⟩
 ·have e0:decide (z < 1)=false:=by simp;omega
  go_enter Try.func13,Try.ntmps13
  go_wp2_with fail
  obtain ⟨H,hH1,hH2⟩:=iN (IntKind.u64.wrap ((hh:Int) * 6364136223846793005) + 1442695040888963407)
  rw [hH2]
  obtain ⟨X,hX1,hX2⟩:=CM ((H:Int) / 8589934592)
  rw [hX2]
  have B1:gF (w.setCell ⟨sb,2,none⟩ (.int .u64 (H:Int))) sb 51 #[.slice ao n c, .int .i64 k, .int .u64 H]:=hB.pW 2 _
  have O1:eO sb (sb + 1) w (w.setCell ⟨sb,2,none⟩ (.int .u64 (H:Int))):=zZ _ _ 2 _
  generalize w.setCell ⟨sb,2,none⟩ (.int .u64 (H:Int))=w1 at *
  have h5:ya w1 ao n sb:=h4.only O1 (Nat.le_refl _)
  have y0:=B1.cell 0
  have y1:=B1.cell 1
  have g1:=B1.frozen 1
  simp at y0 y1
  clear x0 x1 x2 f1 f2 hH2 hX2 h4 hB
  have hn:=h5.1
  have hzz:(z == 0)=false:=by simp;omega
  have fin:∀(Y k':Nat) (w2:World),Y≤33554432→k'≤n→gF w2 sb 51 #[.slice ao n c, .int .i64 k', .int .u64 H]→eO sb (sb + 1) w1 w2→∃r:Nat,Ending.returned (Value.int .i64 ((Y:Int) % z))=Ending.returned (.int .i64 r)∧(z < 1→r=0)∧(1≤z→(r:Int) < z)∧Src w2 sb∧eO sb (sb + 1) w w2:=fun Y k' w2 hY hk' hB2 hO2=>by
   have e2:=Int.emod_nonneg (Y:Int) (show z≠0 by omega)
   have e3:=Int.emod_lt_of_pos (Y:Int) (show 0 < z by omega)
   exact ⟨((Y:Int) % z).toNat,by rw [Int.toNat_of_nonneg e2],fun h=>by omega,fun _=>by omega,⟨ao,n,c,k',H,hB2,hH1,hk',h5.only hO2 (Nat.le_refl _)⟩,O1.trans hO2⟩
  by_cases hk:k < n
  ·obtain ⟨b,off,rfl,hb,hc⟩:=h5.2 (by omega)
   obtain ⟨x,hx,hcx⟩:=hc k hk
   go_quiet (fail)
   go_wp2_with fail
   go_quiet (fail)
   go_wp2
   go_ret
   have key:=fin (X + x) (k + 1)
   rw [Int.natCast_add] at key
   exact key _ (by omega) (by omega) (B1.pW 1 (.int .i64 ((k:Int) + 1))) ⟨rfl,rfl,rfl,by simp [World.setCell,World.drewN],fun a ha hd=>Below.heap_setCell w1 ⟨sb,1,none⟩ (.int .i64 ((k:Int) + 1)) a (by show a≠sb;omega)⟩
  ·go_quiet (fail)
   go_wp2
   go_ret
   exact fin X k _ (by omega) h3 (B1.drewN _) ⟨rfl,rfl,rfl,Nat.le_refl _,fun _ _ _=>rfl⟩
theorem ya.below {w w':World} {ao:Option Addr} {n hi:Nat} (h:ya w ao n hi) (hb:Below w.heap.size w w'):ya w' ao n hi:=by
 refine ⟨h.1,fun hn=> ?_⟩
 obtain ⟨b,off,e,hlt,hc⟩:=h.2 hn
 refine ⟨b,off,e,hlt,fun j hj=> ?_⟩
 obtain ⟨x,hx,hcx⟩:=hc j hj
 exact ⟨x,hx,(World.cell?_of_block (hb.block b (World.block_lt_of_cell? w _ hcx))).trans hcx⟩
set_option maxRecDepth 100000 in
set_option maxHeartbeats 3200000 in
theorem yX (ao:Option Addr) (n c:Nat) (w:World) (h:ya w ao n w.heap.size):
  Calls Try.prog 11 #[.slice ao n c] w fun e w'=>e= .returned (.pointer (some ⟨w.heap.size,0,none⟩))∧Src w' w.heap.size∧w.heap.size < w'.heap.size∧Below w.heap.size w w':=by
 have hn:=h.1
 go_enter Try.func11,Try.ntmps11
 go_wp2
 go_loopw [4] (fun i wr=>∃k hh:Nat,k≤n∧i= .int .i64 k∧hh < 18446744073709551616∧gF wr w.heap.size 51 #[.slice ao n c, .int .i64 0, .int .u64 hh]∧Below w.heap.size w wr∧w.heap.size < wr.heap.size) (fun i _=>n - (intOf i).toNat)
 case atStart=>exact ⟨0,8191 + n,Nat.zero_le _,rfl,by omega,fU rfl,below_alloc1 _ _,by simp⟩
 case round=>
  obtain ⟨k,hh,hk,rfl,hh1,hB,hb,hs⟩:=hrel
  have done:Src wr w.heap.size:=⟨ao,n,c,0,hh,hB,hh1,Nat.zero_le _,h.below hb⟩
  by_cases hlt:k < n
  ·by_cases hl4:k < 4096
   ·obtain ⟨b,off,rfl,hbb,hc⟩:=(h.below hb).2 (by omega)
    obtain ⟨x,hx,hcx⟩:=hc k hlt
    have x2:=hB.cell 2
    have f2:=hB.frozen 2
    simp at x2
    obtain ⟨A,hA1,hA2⟩:=iN ((hh:Int) * 1099511628211)
    obtain ⟨C,hC1,hC2⟩:=iN ((A:Int) + x)
    obtain ⟨D,hD1,hD2⟩:=iN ((C:Int) + 11)
    have e1:IntKind.u64.wrap (x:Int)=(x:Int):=by rw [IntKind.wrap_u64];omega
    have HB:=Lib.hid hB
    clear hB hc done h
    go_wp2_with fail
    go_region_law (fail)
    all_goals
     have hb2:=hb.setCell (p:=⟨w.heap.size,2,none⟩) (Nat.le_refl _) (.int .u64 (D:Int))
     go_wp2
     go_roundw
     case rel=>exact ⟨k + 1,D,by omega,by go_num,hD1,HB.out.pW 2 (.int .u64 (D:Int)),⟨hb2.os,hb2.tape,hb2.output,hb2.size,hb2.block⟩,by simpa [World.setCell] using hs⟩
     case measure=>simp [intOf];omega
   ·go_wp2
    go_ret
    exact ⟨rfl,done,hs,hb⟩
  ·obtain rfl:k=n:=by omega
   go_wp2
   go_ret
   exact ⟨rfl,done,hs,hb⟩
end Go.Proofs.Ytekbhbcgoadciaa
namespace Go.Proofs.Ytekbhbcgoadciaa
open Go.ChangeShapes Go.WideShapes Go.ChangeAt Go.RowKit Go.Deep
section
variable {H:Type} {enc:TypeId×Value→H} {P:Program}
theorem CS {W:World} {base:Nat} {t e:TypeId} {v:Value} {d:DataW H} {p:List MemPlace} (ht:P.underlying t=some (.slice e)) (he:P.underlying e=some (.int .u8)) (hc:P.cellsOf e=1) (hby:P.bytesOf e=1)
  (hv:Value.okWide P W .any base t v) (h:DataW.Trod enc P W 0 (fun _=>true) true t v d p) (hs:∀elems spare,d= .slice elems spare→(elems.length + spare.length) * P.bytesOf e≤reachBytes):
  ∃ao n c,v= .slice ao n c∧ya W ao n W.heap.size:=by
 obtain ⟨a0,len,cap,rfl⟩:=okWide_slice ht hv
 obtain ⟨fuel,hf⟩:=h
 rcases open_ints ht he hc hf with ⟨hcs,hx⟩ | ⟨a,len',cap',zs,hcs,_,hl,hm,hz,hx,hcell,hwz⟩
 ·simp [Value.cells] at hcs
  obtain ⟨rfl,rfl,rfl⟩:=hcs
  exact ⟨_,_,_,rfl,by omega,fun h=>absurd h (by omega)⟩
 ·simp [Value.cells] at hcs
  obtain ⟨rfl,rfl,rfl⟩:=hcs
  simp only [Prod.mk.injEq] at hx
  simp only [if_true] at hz
  have hr:=hs _ _ hx.1
  rw [hby] at hr
  simp only [lits,List.length_map,List.length_take,List.length_drop,reachBytes] at hr
  refine ⟨_,_,_,rfl,by omega,fun hn=> ?_⟩
  obtain ⟨b,off,spot⟩:=a
  have hspot:spot=none:=by simpa [Addr.add] using World.cell?_spot (hcell 0 (by omega))
  subst hspot
  refine ⟨b,off,rfl,World.block_lt_of_cell? W _ (hcell 0 (by omega)),fun j hj=> ?_⟩
  have h1:=hcell j (by omega)
  rw [Addr.add_lit] at h1
  have h2:=hwz (zs.getD j 0) (by rw [List.getD_eq_getElem?_getD,List.getElem?_eq_getElem (show j < zs.length by omega)];exact List.getElem_mem _)
  have h3:=Go.bounds_u8 h2
  exact ⟨(zs.getD j 0).toNat,by omega,by rw [h1,Int.toNat_of_nonneg h3.1]⟩
end
end Go.Proofs.Ytekbhbcgoadciaa
namespace Go.Proofs.Ytekbhbcgoadciaa
open Go.RowKit
abbrev Nm:=Nat
inductive A1 where
 | val (v:Value)
 | any
 | sl (x:Nm) (off n:Nat)
 | ptr (x:Nm) (off:Nat)
 | esl (x:Nm) (i off n:Nat)
 | eptr (x:Nm) (i off:Nat)
 | clo (f:Fn) (xs:List (Nm×Nat))
inductive A2 where
 | one (a:A1)
 | agg (l:List A1)
inductive AV where
 | s (a:A2)
 | tup (l:List A2)
abbrev o1 (a:A1):AV:= .s (.one a)
abbrev vv (v:Value):AV:= .s (.one (.val v))
structure Hd where
 ao:Option Addr
 c:Nat
 k:Nat
structure Env where
 h:Nm→Option Hd
 r:Nm→Nat→Hd
def z6 (h:Hd) (off n:Nat) (u:Value):Prop:=
 ∃ao,u= .slice ao n (h.c - off)∧(off=0→ao=h.ao)∧(0 < off→off < h.c→ao=h.ao.map fun p=>⟨p.block,p.off + off * h.k,none⟩)
def sJ (h:Hd) (off:Nat) (u:Value):Prop:=∃b o,h.ao=some ⟨b,o,none⟩∧u= .pointer (some ⟨b,o + off,none⟩)
def cq (η:Env):A1→Value→Prop
 | .val v,u=>u=v
 | .any,u=>u.oneCell'=true
 | .sl x off n,u=>(∃ao c,u= .slice ao n c)∧∀h,η.h x=some h→z6 h off n u
 | .ptr x off,u=>(∃p,u= .pointer p)∧∀h,η.h x=some h→sJ h off u
 | .esl x i off n,u=>(∃ao c,u= .slice ao n c)∧∀h,η.h x=some h→z6 (η.r x i) off n u
 | .eptr x i off,u=>(∃p,u= .pointer p)∧∀h,η.h x=some h→sJ (η.r x i) off u
 | .clo f xs,u=>∃us:Array Value,u= .func f #[] us∧us.size=xs.length∧∀(j:Nat) (p:Nm×Nat),xs[j]? =some p→∃q,us[j]? =some q∧(∃p',q= .pointer p')∧∀h,η.h p.1=some h→sJ h p.2 q
def fi (η:Env):A2→Value→Prop
 | .one a,u=>cq η a u
 | .agg l,u=>∃us:Array Value,u= .agg us∧us.size=l.length∧∀(j:Nat) (a:A1),l[j]? =some a→∃u',us[j]? =some u'∧cq η a u'
def Den (η:Env):AV→Value→Prop
 | .s a,u=>fi η a u
 | .tup l,u=>∃us:Array Value,u= .tuple us∧us.size=l.length∧∀(j:Nat) (a:A2),l[j]? =some a→∃u',us[j]? =some u'∧fi η a u'
def A1.has (x:Nm):A1→Bool
 | .sl y _ _ | .ptr y _ | .esl y _ _ _ | .eptr y _ _=>Nat.beq x y
 | .clo _ xs=>xs.any fun p=>Nat.beq x p.1
 | .val _ | .any=>false
def A2.has (x:Nm):A2→Bool
 | .one a=>a.has x
 | .agg l=>l.any (A1.has x)
def AV.has (x:Nm):AV→Bool
 | .s a=>a.has x
 | .tup l=>l.any (A2.has x)
def A1.forget (x:Nm) (a:A1):A1:=bif a.has x then .any else a
inductive jG where
 | v (x:Value)
 | r (F:TypeId) (k m:Nat) (vs:List Value)
 | any
inductive dQ where
 | flat (l:List A1)
 | bG (vs:List Value)
 | rows (E:TypeId) (vss:List (List Value)) (holes:List Nat)
 | mix (cs:List jG)
structure Ch where
 own:Bool
 E:TypeId
 k:Nat
 d:dQ
def dQ.len:dQ→Nat
 | .flat l=>l.length
 | .bG vs=>vs.length
 | .rows _ vss _=>vss.length
 | .mix cs=>cs.length
def dQ.forget (x:Nm):dQ→dQ
 | .flat l=> .flat (l.map (A1.forget x))
 | d=>d
def Ch.forget (x:Nm) (c:Ch):Ch:= { c with d:=c.d.forget x }
abbrev bE:=Nat→Option (Nm×Option Nat)
def dh (ω:bE) (w:World) (ow:Nm×Option Nat) (h:Hd) (E:TypeId) (len:Nat) (cell:Nat→Value→Prop):Prop:=
 (h.ao=none∧h.c=0∧len=0)∨
 ∃b o cs,h.ao=some ⟨b,o,none⟩∧ω b=some ow∧w.heap[b]? =some (.cells cs E (0,0))∧(o=0∧cs.size=h.c * h.k)∧len≤h.c * h.k∧h.c≤maxLen∧
  ∀j,j < len→∃u,cs[o + j]? =some u∧cell j u
def BC (ω:bE) (w:World) (h:Hd) (len:Nat) (cell:Nat→Value→Prop):Prop:=
 len≤h.c * h.k∧∀j,j < len→∃b o u,h.ao=some ⟨b,o,none⟩∧ω b=none∧b < w.heap.size∧w.cell? ⟨b,o + j,none⟩=some u∧cell j u
def j6 (own:Bool) (ω:bE) (w:World) (ow:Nm×Option Nat) (h:Hd) (E:TypeId) (len:Nat) (cell:Nat→Value→Prop):Prop:=
 match own with
 | true=>dh ω w ow h E len cell
 | false=>BC ω w h len cell
def jd (η:Env) (ω:bE) (w:World) (own:Bool) (x:Nm) (j:Nat):jG→Value→Prop
 | .v y,u=>u=y
 | .any,_=>True
 | .r F k m vs,u=>vs.length=m * k∧u= .slice (η.r x j).ao m (η.r x j).c∧(η.r x j).k=k∧j6 own ω w (x,some j) (η.r x j) F vs.length fun i u=>vs[i]? =some u
theorem jd.move {η η':Env} {ω ω':bE} {w w':World} {own own':Bool} {x x':Nm} {j:Nat} {c:jG} {u:Value} (hr:η'.r x' j=η.r x j)
  (hv:∀F k m vs,c= .r F k m vs→j6 own ω w (x,some j) (η.r x j) F vs.length (fun i u=>vs[i]? =some u)→j6 own' ω' w' (x',some j) (η.r x j) F vs.length (fun i u=>vs[i]? =some u)) (h:jd η ω w own x j c u):jd η' ω' w' own' x' j c u:=by
 cases c with
 | v y=>exact h
 | any=>trivial
 | r F k m vs=>
  obtain ⟨h0,h1,h2,h3⟩:=h
  unfold jd
  rw [hr]
  exact ⟨h0,h1,h2,hv F k m vs rfl h3⟩
def bW (η:Env) (ω:bE) (w:World) (own:Bool) (x:Nm):dQ→Nat→Value→Prop
 | .flat l,j,u=>∀a,l[j]? =some a→cq η a u
 | .bG vs,j,u=>vs[j]? =some u
 | .rows E vss holes,j,u=>u.oneCell'=true∧(j ∉ holes→∀vs,vss[j]? =some vs→u= .slice (η.r x j).ao vs.length (η.r x j).c∧(η.r x j).k=1∧j6 own ω w (x,some j) (η.r x j) E vs.length fun i u=>vs[i]? =some u)
 | .mix cs,j,u=>u.oneCell'=true∧∀c,cs[j]? =some c→jd η ω w own x j c u
def dC (η:Env) (ω:bE) (w:World) (x:Nm) (h:Hd) (c:Ch):Prop:=h.k=c.k∧j6 c.own ω w (x,none) h c.E c.d.len (bW η ω w c.own x c.d)
def Mem (η:Env) (ω:bE) (w:World) (ch:Nm→Option Ch):Prop:=
 (∀x c,ch x=some c→∃h,η.h x=some h∧dC η ω w x h c)∧(∀x,ch x=none→η.h x=none)
structure Fr (ω:bE) (w:World) (ω':bE) (w':World):Prop where
 os:w'.os=w.os
 tape:w'.tape=w.tape
 output:w'.output=w.output
 size:w.heap.size≤w'.heap.size
 block:∀b,b < w.heap.size→ω b=none→w'.heap[b]? =w.heap[b]? ∧ω' b=none
theorem Fr.refl (ω:bE) (w:World):Fr ω w ω w:=⟨rfl,rfl,rfl,Nat.le_refl _,fun _ _ h=>⟨rfl,h⟩⟩
theorem Fr.trans {ω ω' ω'':bE} {w w' w'':World} (h:Fr ω w ω' w') (k:Fr ω' w' ω'' w''):Fr ω w ω'' w'':=
 ⟨k.os.trans h.os,k.tape.trans h.tape,k.output.trans h.output,Nat.le_trans h.size k.size,fun b hb hn=>
  have h1:=h.block b hb hn
  have h2:=k.block b (Nat.lt_of_lt_of_le hb h.size) h1.2
  ⟨h2.1.trans h1.1,h2.2⟩⟩
structure St where
 sl:Nat→Option AV
 ch:Nm→Option Ch
 ph:Nat→Option AV
structure kd where
 own:bE
 ph:List Value
def St.put (S:St) (t:Nat) (av:AV):St:= { S with sl:=fun t'=>bif Nat.beq t' t then some av else S.sl t' }
def St.B6 (S:St) (t:Option Nat) (av:AV):St:=match t with | some t=>S.put t av | none=>S
def St.new (S:St) (x:Nm) (c:Ch):St:=
 {sl:=fun t=>(S.sl t).bind fun av=>bif av.has x then none else some av,ph:=fun t=>(S.ph t).bind fun av=>bif av.has x then none else some av,ch:=fun y=>bif Nat.beq y x then some c else (S.ch y).map (Ch.forget x) }
def St.set (S:St) (x:Nm) (c:Ch):St:= { S with ch:=fun y=>bif Nat.beq y x then some c else S.ch y }
def St.rm (S:St) (x:Nm):St:= { S with ch:=fun y=>bif Nat.beq y x then none else S.ch y }
structure dj (w0:World) (ω0:kd) (nt:Nat) (S:St) (η:Env) (ω:bE) (a:Act) (w:World):Prop where
 dfr:a.defers= []
 tsz:a.tmps.size=nt
 slots:∀t av,S.sl t=some av→∃u,a.tmps[t]? =some u∧Den η av u
 phs:∀t av,S.ph t=some av→∃u,ω0.ph[t]? =some u∧Den η av u
 mem:Mem η ω w S.ch
 fr:Fr ω0.own w0 ω w
def Sat (w0:World) (ω0:kd) (nt:Nat) (S:St) (a:Act) (w:World):Prop:=∃η ω,dj w0 ω0 nt S η ω a w
section
variable {w0 w:World} {ω0:kd} {ω:bE} {nt:Nat} {S:St} {η:Env} {a:Act}
theorem beq_true {x y:Nat} (h:Nat.beq x y=true):x=y:=Nat.eq_of_beq_eq_true h
theorem cZ {x y:Nat} (h:x≠y):Nat.beq x y=false:=by
 cases hb:Nat.beq x y with
 | true=>exact absurd (beq_true hb) h
 | false=>rfl
theorem gy (S:St) (t t':Nat) (av:AV):(S.put t av).sl t'=if t'=t then some av else S.sl t':=by
 unfold St.put
 by_cases h:t'=t
 ·subst h;simp
 ·simp only [cZ h,if_neg h,cond_false]
theorem ry (S:St) (x y:Nm) (c:Ch):(S.set x c).ch y=if y=x then some c else S.ch y:=by
 unfold St.set
 by_cases h:y=x
 ·subst h;simp
 ·simp only [cZ h,if_neg h,cond_false]
theorem eH (S:St) (x y:Nm):(S.rm x).ch y=if y=x then none else S.ch y:=by
 unfold St.rm
 by_cases h:y=x
 ·subst h;simp
 ·simp only [cZ h,if_neg h,cond_false]
theorem rv (S:St) (x y:Nm) (c:Ch):(S.new x c).ch y=if y=x then some c else (S.ch y).map (Ch.forget x):=by
 unfold St.new
 by_cases h:y=x
 ·subst h;simp
 ·simp only [cZ h,if_neg h,cond_false]
theorem zq {S:St} {x:Nm} {c:Ch} {t:Nat} {av:AV} (h:(S.new x c).sl t=some av):S.sl t=some av∧av.has x=false:=by
 unfold St.new at h
 simp only at h
 cases hs:S.sl t with
 | none=>rw [hs] at h;cases h
 | some b=>
  rw [hs] at h
  simp only [Option.bind_some] at h
  cases hb:b.has x with
  | true=>rw [hb] at h;cases h
  | false=>rw [hb] at h;simp at h;subst h;exact ⟨rfl,hb⟩
theorem zi {S:St} {x:Nm} {c:Ch} {t:Nat} {av:AV} (h:(S.new x c).ph t=some av):S.ph t=some av∧av.has x=false:=by
 unfold St.new at h
 simp only at h
 cases hs:S.ph t with
 | none=>rw [hs] at h;cases h
 | some b=>
  rw [hs] at h
  simp only [Option.bind_some] at h
  cases hb:b.has x with
  | true=>rw [hb] at h;cases h
  | false=>rw [hb] at h;simp at h;subst h;exact ⟨rfl,hb⟩
theorem dj.eY (h:dj w0 ω0 nt S η ω a w) {t:Nat} {av:AV} {u:Value} (ht:t < nt) (hd:Den η av u):dj w0 ω0 nt (S.put t av) η ω (a.put (some t) u) w:=
 {dfr:=h.dfr,tsz:=by simp only [Act.put,Array.size_setIfInBounds];exact h.tsz,mem:=h.mem,fr:=h.fr,phs:=h.phs,slots:=fun t' av' ht'=>by
   rw [gy] at ht'
   simp only [Act.put,Array.getElem?_setIfInBounds,h.tsz]
   by_cases e:t'=t
   ·subst e
    rw [if_pos rfl] at ht'
    obtain rfl:=Option.some.inj ht'
    exact ⟨u,by simp [ht],hd⟩
   ·rw [if_neg e] at ht'
    obtain ⟨u',h1,h2⟩:=h.slots t' av' ht'
    exact ⟨u',by rw [if_neg fun e'=>e e'.symm];exact h1,h2⟩ }
theorem j6.get {own:Bool} {ow:Nm×Option Nat} {h:Hd} {E:TypeId} {len:Nat} {cell:Nat→Value→Prop} (hv:j6 own ω w ow h E len cell) {j:Nat} (hj:j < len):
  ∃b o u,h.ao=some ⟨b,o,none⟩∧w.cell? ⟨b,o + j,none⟩=some u∧cell j u:=by
 cases own with
 | true=>
  rcases hv with ⟨_,_,h0⟩ | ⟨b,o,cs,h1,_,h2,_,_,_,h3⟩
  ·omega
  ·obtain ⟨u,hu,hc⟩:=h3 j hj
   exact ⟨b,o,u,h1,by rw [cell_of_row w b (o + j) cs E (0,0) h2];exact hu,hc⟩
 | false=>
  obtain ⟨b,o,u,h1,_,_,h2,h3⟩:=hv.2 j hj
  exact ⟨b,o,u,h1,h2,h3⟩
theorem j6.cap {own:Bool} {ow:Nm×Option Nat} {h:Hd} {E:TypeId} {len:Nat} {cell:Nat→Value→Prop} (hv:j6 own ω w ow h E len cell):len≤h.c * h.k:=by
 cases own with
 | true=>rcases hv with ⟨_,_,h0⟩ | ⟨b,o,cs,h1,_,h2,_,h3,_⟩<;>omega
 | false=>exact hv.1
end
end Go.Proofs.Ytekbhbcgoadciaa
namespace Go.Proofs.Ytekbhbcgoadciaa
open Go.RowKit
def A1.mono (η η':Env) (a:A1):Prop:=∀x,a.has x=true→η'.h x=none∨(η'.h x=η.h x∧∀i,η'.r x i=η.r x i)
theorem td (x:Nat):Nat.beq x x=true:=by simp
theorem cq.mono {η η':Env} {a:A1} {u:Value} (hm:a.mono η η') (h:cq η a u):cq η' a u:=by
 cases a with
 | val v=>exact h
 | any=>exact h
 | sl x off n=>exact ⟨h.1,fun hd he=>(hm x (td x)).elim (fun e=>by rw [e] at he;cases he) (fun e=>h.2 hd (e.1 ▸ he))⟩
 | ptr x off=>exact ⟨h.1,fun hd he=>(hm x (td x)).elim (fun e=>by rw [e] at he;cases he) (fun e=>h.2 hd (e.1 ▸ he))⟩
 | esl x i off n=>exact ⟨h.1,fun hd he=>(hm x (td x)).elim (fun e=>by rw [e] at he;cases he) (fun e=>by rw [e.2 i];exact h.2 hd (e.1 ▸ he))⟩
 | eptr x i off=>exact ⟨h.1,fun hd he=>(hm x (td x)).elim (fun e=>by rw [e] at he;cases he) (fun e=>by rw [e.2 i];exact h.2 hd (e.1 ▸ he))⟩
 | clo f xs=>
  obtain ⟨us,h1,h2,h3⟩:=h
  refine ⟨us,h1,h2,fun j p hp=> ?_⟩
  obtain ⟨q,hq,hq1,hq2⟩:=h3 j p hp
  refine ⟨q,hq,hq1,fun hd he=> ?_⟩
  have hx:(A1.clo f xs).has p.1=true:=by simp only [A1.has,List.any_eq_true];exact ⟨p,List.mem_of_getElem? hp,td _⟩
  exact (hm p.1 hx).elim (fun e=>by rw [e] at he;cases he) (fun e=>hq2 hd (e.1 ▸ he))
theorem cq.one {η:Env} {a:A1} {u:Value} (h:cq η a u) (hv:∀v,a= .val v→v.oneCell'=true):u.oneCell'=true:=by
 cases a with
 | val v=>have h:u=v:=h;subst h;exact hv _ rfl
 | any=>exact h
 | sl x off n=>obtain ⟨⟨ao,c,rfl⟩,_⟩:=h;rfl
 | ptr x off=>obtain ⟨⟨ao,rfl⟩,_⟩:=h;rfl
 | esl x i off n=>obtain ⟨⟨ao,c,rfl⟩,_⟩:=h;rfl
 | eptr x i off=>obtain ⟨⟨ao,rfl⟩,_⟩:=h;rfl
 | clo f xs=>obtain ⟨us,rfl,_⟩:=h;rfl
theorem uc {a:A1} {x:Nm} (h:a.has x=true):∀v,a= .val v→v.oneCell'=true:=by rintro v rfl;cases h
theorem cq.forget {η η':Env} {a:A1} {u:Value} {x:Nm} (hm:∀y,y≠x→η'.h y=none∨(η'.h y=η.h y∧∀i,η'.r y i=η.r y i)) (h:cq η a u):cq η' (a.forget x) u:=by
 unfold A1.forget
 cases hx:a.has x with
 | true=>exact h.one (uc hx)
 | false=>exact cq.mono (a:=a) (fun y hy=>hm y fun e=>by rw [e,hx] at hy;cases hy) h
def A2.mono (η η':Env) (a:A2):Prop:=∀x,a.has x=true→η'.h x=none∨(η'.h x=η.h x∧∀i,η'.r x i=η.r x i)
theorem fi.mono {η η':Env} {a:A2} {u:Value} (hm:a.mono η η') (h:fi η a u):fi η' a u:=by
 cases a with
 | one a=>exact cq.mono hm h
 | agg l=>
  obtain ⟨us,h1,h2,h3⟩:=h
  refine ⟨us,h1,h2,fun j a ha=> ?_⟩
  obtain ⟨u',h4,h5⟩:=h3 j a ha
  exact ⟨u',h4,h5.mono fun x hx=>hm x (by simp only [A2.has,List.any_eq_true];exact ⟨a,List.mem_of_getElem? ha,hx⟩)⟩
def AV.mono (η η':Env) (a:AV):Prop:=∀x,a.has x=true→η'.h x=none∨(η'.h x=η.h x∧∀i,η'.r x i=η.r x i)
theorem Den.mono {η η':Env} {a:AV} {u:Value} (hm:a.mono η η') (h:Den η a u):Den η' a u:=by
 cases a with
 | s a=>exact fi.mono hm h
 | tup l=>
  obtain ⟨us,h1,h2,h3⟩:=h
  refine ⟨us,h1,h2,fun j a ha=> ?_⟩
  obtain ⟨u',h4,h5⟩:=h3 j a ha
  exact ⟨u',h4,h5.mono fun x hx=>hm x (by simp only [AV.has,List.any_eq_true];exact ⟨a,List.mem_of_getElem? ha,hx⟩)⟩
section
variable {w0 w w':World} {ω0:kd} {ω ω':bE} {nt:Nat} {S:St} {η η':Env} {a:Act}
def Same (ω:bE) (w:World) (ω':bE) (w':World) (p:Option (Nm×Option Nat)→Prop):Prop:=
 w.heap.size≤w'.heap.size∧∀b,b < w.heap.size→p (ω b)→w'.heap[b]? =w.heap[b]? ∧ω' b=ω b
theorem ed {b:Nat} {o:Obj} (h:w.heap[b]? =some o):b < w.heap.size:=by
 rcases Nat.lt_or_ge b w.heap.size with hlt | hge
 ·exact hlt
 ·rw [Array.getElem?_eq_none hge] at h;cases h
theorem j6.same {own:Bool} {ow:Nm×Option Nat} {h:Hd} {E:TypeId} {len:Nat} {cell cell':Nat→Value→Prop} {p:Option (Nm×Option Nat)→Prop} (hs:Same ω w ω' w' p) (hp:p none) (hp':p (some ow))
  (hc:∀j u,cell j u→cell' j u) (hv:j6 own ω w ow h E len cell):j6 own ω' w' ow h E len cell':=by
 cases own with
 | true=>
  rcases hv with h0 | ⟨b,o,cs,h1,h2,h3,h4,h5,h6,h7⟩
  ·exact .inl h0
  ·have hb:=hs.2 b (ed h3) (by rw [h2];exact hp')
   refine .inr ⟨b,o,cs,h1,hb.2.trans h2,hb.1.trans h3,h4,h5,h6,fun j hj=> ?_⟩
   obtain ⟨u,hu,hcu⟩:=h7 j hj
   exact ⟨u,hu,hc j u hcu⟩
 | false=>
  refine ⟨hv.1,fun j hj=> ?_⟩
  obtain ⟨b,o,u,h1,h2,h3,h4,h5⟩:=hv.2 j hj
  have hb:=hs.2 b h3 (by rw [h2];exact hp)
  exact ⟨b,o,u,h1,hb.2.trans h2,Nat.lt_of_lt_of_le h3 hs.1,(World.cell?_of_block hb.1).trans h4,hc j u h5⟩
theorem dC.same {x:Nm} {h:Hd} {c:Ch} {p:Option (Nm×Option Nat)→Prop} (hs:Same ω w ω' w' p) (hp:p none) (hp':∀i,p (some (x,i))) (hr:∀i,η'.r x i=η.r x i)
  (hm:∀l,c.d= .flat l→∀a∈l,a.mono η η') (hc:dC η ω w x h c):dC η' ω' w' x h c:=by
 refine ⟨hc.1,hc.2.same hs hp (hp' none) fun j u hu=> ?_⟩
 cases hd:c.d with
 | flat l=>rw [hd] at hu;exact fun a ha=>(hu a ha).mono (hm l hd a (List.mem_of_getElem? ha))
 | bG vs=>rw [hd] at hu;exact hu
 | rows E vss holes=>
  rw [hd] at hu
  refine ⟨hu.1,fun hj vs hvs=> ?_⟩
  obtain ⟨h1,h2,h3⟩:=hu.2 hj vs hvs
  rw [hr j]
  exact ⟨h1,h2,h3.same hs hp (hp' (some j)) fun _ _ h=>h⟩
 | mix cs=>rw [hd] at hu;exact ⟨hu.1,fun c hc=>(hu.2 c hc).move (hr j) fun _ _ _ _ _ h3=>h3.same hs hp (hp' (some j)) fun _ _ h=>h⟩
theorem dC.forget {x y:Nm} {h:Hd} {c:Ch} {p:Option (Nm×Option Nat)→Prop} (hs:Same ω w ω' w' p) (hp:p none) (hp':∀i,p (some (x,i))) (hr:∀i,η'.r x i=η.r x i)
  (hm:∀z,z≠y→η'.h z=none∨(η'.h z=η.h z∧∀i,η'.r z i=η.r z i)) (hc:dC η ω w x h c):dC η' ω' w' x h (c.forget y):=by
 refine ⟨hc.1, ?_⟩
 have hl:(c.forget y).d.len=c.d.len:=by unfold Ch.forget dQ.forget;cases c.d<;>simp [dQ.len]
 rw [hl]
 refine hc.2.same hs hp (hp' none) fun j u hu=> ?_
 unfold Ch.forget dQ.forget
 cases hd:c.d with
 | flat l=>
  rw [hd] at hu
  intro a ha
  simp only [List.getElem?_map,Option.map_eq_some_iff] at ha
  obtain ⟨b,hb,rfl⟩:=ha
  exact (hu b hb).forget hm
 | bG vs=>rw [hd] at hu;exact hu
 | rows E vss holes=>
  rw [hd] at hu
  refine ⟨hu.1,fun hj vs hvs=> ?_⟩
  obtain ⟨h1,h2,h3⟩:=hu.2 hj vs hvs
  rw [hr j]
  exact ⟨h1,h2,h3.same hs hp (hp' (some j)) fun _ _ h=>h⟩
 | mix cs=>rw [hd] at hu;exact ⟨hu.1,fun c hc=>(hu.2 c hc).move (hr j) fun _ _ _ _ _ h3=>h3.same hs hp (hp' (some j)) fun _ _ h=>h⟩
def live (S:St) (o:Option (Nm×Option Nat)):Prop:=o=none∨∃y i c,o=some (y,i)∧S.ch y=some c
structure Calm (S:St) (ω:bE) (w:World) (ω':bE) (w':World):Prop where
 os:w'.os=w.os
 tape:w'.tape=w.tape
 output:w'.output=w.output
 same:Same ω w ω' w' (live S)
theorem Calm.fr {ω0:bE} (h:Calm S ω w ω' w') (hf:Fr ω0 w0 ω w):Fr ω0 w0 ω' w':=
 ⟨h.os.trans hf.os,h.tape.trans hf.tape,h.output.trans hf.output,Nat.le_trans hf.size h.same.1,fun b hb hn=>by
  have h1:=hf.block b hb hn
  have h2:=h.same.2 b (Nat.lt_of_lt_of_le hb hf.size) (.inl h1.2)
  exact ⟨h2.1.trans h1.1,h2.2.trans h1.2⟩⟩
def Env.new (η:Env) (x:Nm) (hd:Hd) (r:Nat→Hd):Env:= { h:=fun y=>if y=x then some hd else η.h y,r:=fun y i=>if y=x then r i else η.r y i }
theorem Env.new_ne (η:Env) {x:Nm} (hd:Hd) (r:Nat→Hd) (y:Nm) (h:y≠x):(η.new x hd r).h y=none∨((η.new x hd r).h y=η.h y∧∀i,(η.new x hd r).r y i=η.r y i):=
 .inr ⟨by simp [Env.new,h],fun i=>by simp [Env.new,h]⟩
theorem dj.lay (h:dj w0 ω0 nt S η ω a w) {x:Nm} {c:Ch} {hd:Hd} {r:Nat→Hd} (hk:Calm S ω w ω' w') (hc:dC (η.new x hd r) ω' w' x hd c):dj w0 ω0 nt (S.new x c) (η.new x hd r) ω' a w':=
 {dfr:=h.dfr,tsz:=h.tsz,fr:=hk.fr h.fr,slots:=fun t av ht=>by
   obtain ⟨h1,h2⟩:=zq ht
   obtain ⟨u,h3,h4⟩:=h.slots t av h1
   exact ⟨u,h3,h4.mono fun y hy=>Env.new_ne η hd r y fun e=>by rw [e,h2] at hy;cases hy⟩,phs:=fun t av ht=>by
   obtain ⟨h1,h2⟩:=zi ht
   obtain ⟨u,h3,h4⟩:=h.phs t av h1
   exact ⟨u,h3,h4.mono fun y hy=>Env.new_ne η hd r y fun e=>by rw [e,h2] at hy;cases hy⟩,mem:=⟨fun y d hy=>by
   rw [rv] at hy
   by_cases e:y=x
   ·subst e
    rw [if_pos rfl] at hy
    obtain rfl:=Option.some.inj hy
    exact ⟨hd,by simp [Env.new],hc⟩
   ·rw [if_neg e,Option.map_eq_some_iff] at hy
    obtain ⟨d',hy',rfl⟩:=hy
    obtain ⟨h',e1,e2⟩:=h.mem.1 y d' hy'
    exact ⟨h',by simp [Env.new,e,e1],e2.forget hk.same (.inl rfl) (fun i=> .inr ⟨y,i,d',rfl,hy'⟩) (fun i=>by simp [Env.new,e]) fun z hz=>Env.new_ne η hd r z hz⟩,
   fun y hy=>by
   rw [rv] at hy
   by_cases e:y=x
   ·rw [if_pos e] at hy;cases hy
   ·rw [if_neg e,Option.map_eq_none_iff] at hy
    simp [Env.new,e,h.mem.2 y hy]⟩ }
def Env.drop (η:Env) (x:Nm):Env:= { η with h:=fun y=>if y=x then none else η.h y }
theorem Env.om (η:Env) (x y:Nm):(η.drop x).h y=none∨((η.drop x).h y=η.h y∧∀i,(η.drop x).r y i=η.r y i):=by
 by_cases e:y=x
 ·exact .inl (by simp [Env.drop,e])
 ·exact .inr ⟨by simp [Env.drop,e],fun _=>rfl⟩
theorem Same.refl (ω:bE) (w:World) (p:Option (Nm×Option Nat)→Prop):Same ω w ω w p:=⟨Nat.le_refl _,fun _ _ _=>⟨rfl,rfl⟩⟩
theorem Calm.refl (S:St) (ω:bE) (w:World):Calm S ω w ω w:=⟨rfl,rfl,rfl,Same.refl _ _ _⟩
theorem dj.drop (h:dj w0 ω0 nt S η ω a w) (x:Nm):dj w0 ω0 nt (S.rm x) (η.drop x) ω a w:=
 {dfr:=h.dfr,tsz:=h.tsz,fr:=h.fr,slots:=fun t av ht=>by
   obtain ⟨u,h3,h4⟩:=h.slots t av ht
   exact ⟨u,h3,h4.mono fun y _=>Env.om η x y⟩,phs:=fun t av ht=>by
   obtain ⟨u,h3,h4⟩:=h.phs t av ht
   exact ⟨u,h3,h4.mono fun y _=>Env.om η x y⟩,mem:=⟨fun y d hy=>by
   rw [eH] at hy
   by_cases e:y=x
   ·rw [if_pos e] at hy;cases hy
   ·rw [if_neg e] at hy
    obtain ⟨h',e1,e2⟩:=h.mem.1 y d hy
    exact ⟨h',by simp [Env.drop,e,e1],dC.same (η:=η) (p:=fun _=>True) (Same.refl _ _ _) trivial (fun _=>trivial) (fun _=>rfl) (fun l _ a _ z _=>Env.om η x z) e2⟩,
   fun y hy=>by
   rw [eH] at hy
   by_cases e:y=x
   ·simp [Env.drop,e]
   ·rw [if_neg e] at hy
    simp [Env.drop,e,h.mem.2 y hy]⟩ }
theorem dj.write (h:dj w0 ω0 nt S η ω a w) {x:Nm} {c':Ch} {hd:Hd} (he:η.h x=some hd) (hk:Calm (S.rm x) ω w ω' w') (hc:dC η ω' w' x hd c'):
  dj w0 ω0 nt (S.set x c') η ω' a w':=
 {dfr:=h.dfr,tsz:=h.tsz,fr:=hk.fr h.fr,slots:=h.slots,phs:=h.phs,mem:=⟨fun y d hy=>by
   rw [ry] at hy
   by_cases e:y=x
   ·subst e
    rw [if_pos rfl] at hy
    obtain rfl:=Option.some.inj hy
    exact ⟨hd,he,hc⟩
   ·rw [if_neg e] at hy
    obtain ⟨h',e1,e2⟩:=h.mem.1 y d hy
    exact ⟨h',e1,e2.same hk.same (.inl rfl) (fun i=> .inr ⟨y,i,d,rfl,by rw [eH,if_neg e];exact hy⟩) (fun _=>rfl) fun l _ a _ z _=> .inr ⟨rfl,fun _=>rfl⟩⟩,
   fun y hy=>by
   rw [ry] at hy
   by_cases e:y=x
   ·rw [if_pos e] at hy;cases hy
   ·rw [if_neg e] at hy;exact h.mem.2 y hy⟩ }
end
end Go.Proofs.Ytekbhbcgoadciaa
namespace Go.Proofs.Ytekbhbcgoadciaa
open Go.RowKit
def cv:Value→AV
 | .agg cs=> .s (.agg (cs.toList.map .val))
 | v=>vv v
def St.op (S:St):Operand→Option AV
 | .tmp t=>S.sl t
 | .const v=>some (cv v)
 | .func f=>some (o1 (.clo (.func f) []))
 | .global _=>none
theorem Bu (η:Env) (v:Value):Den η (cv v) v:=by
 cases v<;>try exact rfl
 rename_i cs
 refine ⟨cs,rfl,by simp,fun j a ha=> ?_⟩
 simp only [List.getElem?_map,Option.map_eq_some_iff] at ha
 obtain ⟨u,hu,rfl⟩:=ha
 exact ⟨u,by simpa using hu,rfl⟩
structure bQ (P:Program) (nt:Nat) (o:Oper) (S S':St):Prop where
 go:∀(w0:World) (ω0:kd) (a:Act) (w:World) (Q:Exit→Act→World→Prop),Sat w0 ω0 nt S a w→o.wp P a w (Sat w0 ω0 nt S') Q
section
variable {P:Program} {nt:Nat} {S S':St} {w0 w:World} {ω0:kd} {ω:bE} {η:Env} {a:Act}
theorem dj.gk (h:dj w0 ω0 nt S η ω a w) {x:Operand} {av:AV} (hx:S.op x=some av):Den η av (a.eval x):=by
 cases x with
 | tmp t=>
  obtain ⟨u,h1,h2⟩:=h.slots t av hx
  have:a.eval (.tmp t)=u:=by simp [Act.eval,h1]
  rw [this];exact h2
 | const v=>obtain rfl:=Option.some.inj hx;exact Bu η v
 | func f=>obtain rfl:=Option.some.inj hx;exact ⟨#[],rfl,rfl,fun j p hp=>by simp at hp⟩
 | global g=>cases hx
theorem dj.fL (h:dj w0 ω0 nt S η ω a w) {x:Operand} {v:Value} (hx:S.op x=some (vv v)):a.eval x=v:=h.gk hx
theorem bQ.of (o:Oper) (h:∀w0 ω0 η ω a w,dj w0 ω0 nt S η ω a w→∃v w',(execOp a.eval o).run P w= .ok (.value v) w'∧Sat w0 ω0 nt S' (a.put o.dst v) w'):bQ P nt o S S':=by
 refine ⟨fun w0 ω0 a w Q ⟨η,ω,hs⟩=> ?_⟩
 obtain ⟨v,w',h1,h2⟩:=h w0 ω0 η ω a w hs
 unfold Oper.wp
 rw [h1]
 exact h2
theorem bQ.pure {o:Oper} {t:Nat} {av:AV} (hd:o.dst=some t) (ht:Nat.blt t nt=true) (h:∀w0 ω0 η ω a w,dj w0 ω0 nt S η ω a w→∃v,(execOp a.eval o).run P w= .ok (.value v) w∧Den η av v):bQ P nt o S (S.put t av):=by
 refine bQ.of o fun w0 ω0 η ω a w hs=> ?_
 obtain ⟨v,h1,h2⟩:=h w0 ω0 η ω a w hs
 exact ⟨v,w,h1,η,ω,by rw [hd];exact hs.eY (by simpa using ht) h2⟩
variable {t:Nat} {ty:TypeId} {ps:String} {af:Array Edge} {gd:Option (Nat×Bool)} {x y:Operand} {av:AV}
theorem ae (ht:Nat.blt t nt=true) (hx:S.op x=some av):bQ P nt ⟨some t, .move x,ty,ps,af,gd⟩ S (S.put t av):=
 bQ.pure rfl ht fun _ _ η _ a _ hs=>⟨a.eval x,by simp [execOp],hs.gk hx⟩
theorem ag (ht:Nat.blt t nt=true) (hx:S.op x=some av):bQ P nt ⟨some t, .assign x,ty,ps,af,gd⟩ S (S.put t av):=
 bQ.pure rfl ht fun _ _ η _ a _ hs=>⟨a.eval x,by simp [execOp],hs.gk hx⟩
def dB (k:IntKind):BinOp→Int→Int→Option Value
 | .add,m,n=>some (.int k (k.wrap (m + n)))
 | .sub,m,n=>some (.int k (k.wrap (m - n)))
 | .mul,m,n=>some (.int k (k.wrap (m * n)))
 | .eql,m,n=>some (.bool (m == n))
 | .neq,m,n=>some (.bool (m != n))
 | .lss,m,n=>some (.bool (decide (m < n)))
 | .leq,m,n=>some (.bool (decide (m≤n)))
 | .gtr,m,n=>some (.bool (decide (m > n)))
 | .geq,m,n=>some (.bool (decide (m≥n)))
 | _,_,_=>none
theorem aD {op:BinOp} {xt yt:TypeId} {k:IntKind} {m n:Int} {r:Value} (ht:Nat.blt t nt=true) (hx:S.op x=some (vv (.int k m))) (hy:S.op y=some (vv (.int k n))) (hr:dB k op m n=some r):
  bQ P nt ⟨some t, .binOp op xt x y yt,ty,ps,af,gd⟩ S (S.put t (vv r)):=
 bQ.pure rfl ht fun _ _ η _ a w hs=>by
  refine ⟨r, ?_,rfl⟩
  simp only [execOp,hs.fL hx,hs.fL hy]
  cases op<;>simp only [dB,Option.some.injEq,reduceCtorEq] at hr<;>subst hr<;>simp [eqGuard,binOp,Op.intArith,Op.intCmp]
theorem aR {xt yt:TypeId} {k:IntKind} {m n r:Int} (ht:Nat.blt t nt=true) (hx:S.op x=some (vv (.int k m))) (hy:S.op y=some (vv (.int k n))) (hr:k.wrap (m + n)=r):
  bQ P nt ⟨some t, .binOp .add xt x y yt,ty,ps,af,gd⟩ S (S.put t (vv (.int k r))):=hr ▸ aD ht hx hy rfl
theorem bJ {xt yt:TypeId} {k:IntKind} {m n r:Int} (ht:Nat.blt t nt=true) (hx:S.op x=some (vv (.int k m))) (hy:S.op y=some (vv (.int k n))) (hr:k.wrap (m - n)=r):
  bQ P nt ⟨some t, .binOp .sub xt x y yt,ty,ps,af,gd⟩ S (S.put t (vv (.int k r))):=hr ▸ aD ht hx hy rfl
theorem c9 {xt yt:TypeId} {k:IntKind} {m n r:Int} (ht:Nat.blt t nt=true) (hx:S.op x=some (vv (.int k m))) (hy:S.op y=some (vv (.int k n))) (hr:k.wrap (m * n)=r):
  bQ P nt ⟨some t, .binOp .mul xt x y yt,ty,ps,af,gd⟩ S (S.put t (vv (.int k r))):=hr ▸ aD ht hx hy rfl
theorem cV {xt:TypeId} {b:Bool} (ht:Nat.blt t nt=true) (hx:S.op x=some (vv (.bool b))):bQ P nt ⟨some t, .unOp .not xt x,ty,ps,af,gd⟩ S (S.put t (vv (.bool !b))):=
 bQ.pure rfl ht fun _ _ η _ a w hs=>⟨.bool !b,by simp [execOp,hs.fL hx,Op.unary],rfl⟩
theorem aZ {l:List A2} {i:Nat} {a2:A2} (ht:Nat.blt t nt=true) (hx:S.op x=some (.tup l)) (hi:l[i]? =some a2):bQ P nt ⟨some t, .extract x i,ty,ps,af,gd⟩ S (S.put t (.s a2)):=
 bQ.pure rfl ht fun _ _ η _ a w hs=>by
  obtain ⟨us,h1,h2,h3⟩:=hs.gk hx
  obtain ⟨u,h4,h5⟩:=h3 i a2 hi
  exact ⟨u,by simp [execOp,h1,Instr.extract,h4],h5⟩
theorem dj.chunk (h:dj w0 ω0 nt S η ω a w) {x:Nm} {c:Ch} (hx:S.ch x=some c):∃hd,η.h x=some hd∧hd.k=c.k∧j6 c.own ω w (x,none) hd c.E c.d.len (bW η ω w c.own x c.d):=
 have ⟨hd,h1,h2,h3⟩:=h.mem.1 x c hx
 ⟨hd,h1,h2,h3⟩
theorem bh {n:Nm} {i:Nat} {c:Ch} (ht:Nat.blt t nt=true) (hx:S.op x=some (o1 (.ptr n i))) (hc:S.ch n=some c):bQ P nt ⟨some t, .nilCheck x,ty,ps,af,gd⟩ S (S.put t (o1 (.ptr n i))):=
 bQ.pure rfl ht fun _ _ η _ a w hs=>by
  obtain ⟨hd,h1,_⟩:=hs.chunk hc
  have hd1:cq η (.ptr n i) (a.eval x):=hs.gk hx
  obtain ⟨b,o,e1,e2⟩:=hd1.2 hd h1
  exact ⟨a.eval x,by simp [execOp,e2],hd1⟩
def oA (P:Program) (T:TypeId) (f d:Nat):Bool:=
 match P.underlying T with
 | some (.struct fs)=>match fs[f]? with
  | some fd=>fd.offset == d && (match P.info? fd.type with | some i=>i.size != 0 | none=>false)
  | none=>false
 | _=>false
theorem q9 {T:TypeId} {f d:Nat} (h:oA P T f d=true) (b o:Nat) (w:World):(Instr.fieldAt T (.pointer (some ⟨b,o,none⟩)) f).run P w= .ok (.pointer (some ⟨b,o + d,none⟩)) w:=by
 unfold oA at h
 split at h
 ·rename_i fs hfs
  split at h
  ·rename_i fd hfd
   simp only [Bool.and_eq_true,beq_iff_eq] at h
   obtain ⟨h1,h2⟩:=h
   split at h2
   ·rename_i i hi
    have h3:i.size≠0:=by simpa using h2
    subst h1
    simp [Instr.fieldAt,run_underlying hfs,hfd,Instr.sureAddr,fieldPlace,sizeOf,typeInfo,hi,h3,Addr.add_lit]
   ·cases h2
  ·cases h
 ·cases h
theorem aE {T:TypeId} {f d:Nat} {n:Nm} {i:Nat} {c:Ch} (ht:Nat.blt t nt=true) (hx:S.op x=some (o1 (.ptr n i))) (hc:S.ch n=some c) (hf:oA P T f d=true):
  bQ P nt ⟨some t, .fieldAddr T x f,ty,ps,af,gd⟩ S (S.put t (o1 (.ptr n (i + d)))):=
 bQ.pure rfl ht fun _ _ η _ a w hs=>by
  obtain ⟨hd,h1,_⟩:=hs.chunk hc
  have hd1:cq η (.ptr n i) (a.eval x):=hs.gk hx
  obtain ⟨b,o,e1,e2⟩:=hd1.2 hd h1
  refine ⟨.pointer (some ⟨b,o + i + d,none⟩),by simp [execOp,e2,q9 hf],⟨_,rfl⟩,fun hd' he=> ?_⟩
  rw [h1] at he;obtain rfl:=Option.some.inj he
  exact ⟨b,o,e1,by rw [Nat.add_assoc]⟩
def mC (P:Program) (T:TypeId):Bool:=
 match P.underlying T with
 | some (.struct _) | some (.array _ _) | none=>false
 | _=>true
theorem so {T:TypeId} (h:mC P T=true) (w:World):(isAgg T).run P w= .ok false w:=by
 unfold mC at h
 cases hu:P.underlying T with
 | none=>rw [hu] at h;cases h
 | some d=>rw [hu] at h;cases d<;>first | (cases h;done) | simp [isAgg,run_underlying hu]
theorem mS {T:TypeId} (h:mC P T=true) {p:Addr} {w:World} {u:Value} (hc:w.cell? p=some u):(Instr.loadAt T (.pointer (some p))).run P w= .ok u w:=by
 simp [Instr.loadAt,Instr.sureAddr,loadVar,so h,hc]
def dQ.at_ (x:Nm):dQ→Nat→Option A1
 | .flat l,j=>l[j]?
 | .bG vs,j=>vs[j]?.map .val
 | .rows _ vss holes,j=>if holes.contains j then none else vss[j]?.map fun vs=> .esl x j 0 vs.length
 | .mix cs,j=>match cs[j]? with
  | some (.v y)=>some (.val y)
  | some (.r _ _ m _)=>some (.esl x j 0 m)
  | some .any=>some .any
  | none=>none
theorem vm {x:Nm} {own:Bool} {d:dQ} {j:Nat} {u:Value} {b:A1} (hu:bW η ω w own x d j u) (hb:d.at_ x j=some b):cq η b u:=by
 cases d with
 | flat l=>exact hu b hb
 | bG vs=>
  have hu:vs[j]? =some u:=hu
  have hb:vs[j]?.map A1.val=some b:=hb
  rw [hu] at hb;simp at hb;subst hb;exact rfl
 | rows E vss holes=>
  have hb:(if holes.contains j then none else vss[j]?.map fun vs=>A1.esl x j 0 vs.length)=some b:=hb
  split at hb
  ·cases hb
  ·rename_i hh
   rw [Option.map_eq_some_iff] at hb
   obtain ⟨vs,hvs,rfl⟩:=hb
   obtain ⟨rfl,h2,_⟩:=hu.2 (by simpa using hh) vs hvs
   exact ⟨⟨_,_,rfl⟩,fun hd _=>⟨_,rfl,fun _=>rfl,fun h=>absurd h (by omega)⟩⟩
 | mix cs=>
  simp only [dQ.at_] at hb
  cases hc:cs[j]? with
  | none=>rw [hc] at hb;cases hb
  | some c=>
   rw [hc] at hb
   have hk:=hu.2 c hc
   cases c with
   | v y=>obtain rfl:=Option.some.inj hb;exact hk
   | any=>obtain rfl:=Option.some.inj hb;exact hu.1
   | r F k m vs=>
    obtain rfl:=Option.some.inj hb
    obtain ⟨_,rfl,_,_⟩:=hk
    exact ⟨⟨_,_,rfl⟩,fun hd _=>⟨_,rfl,fun _=>rfl,fun h=>absurd h (by omega)⟩⟩
theorem dQ.y7 {x:Nm} {d:dQ} {j:Nat} {b:A1} (h:d.at_ x j=some b):j < d.len:=by
 cases d with
 | flat l=>exact (List.getElem?_eq_some_iff.1 h).1
 | bG vs=>
  have h:vs[j]?.map A1.val=some b:=h
  rw [Option.map_eq_some_iff] at h
  obtain ⟨v,hv,_⟩:=h
  exact (List.getElem?_eq_some_iff.1 hv).1
 | rows E vss holes=>
  have h:(if holes.contains j then none else vss[j]?.map fun vs=>A1.esl x j 0 vs.length)=some b:=h
  split at h
  ·cases h
  ·rw [Option.map_eq_some_iff] at h
   obtain ⟨vs,hvs,rfl⟩:=h
   exact (List.getElem?_eq_some_iff.1 hvs).1
 | mix cs=>
  simp only [dQ.at_] at h
  cases hc:cs[j]? with
  | none=>rw [hc] at h;cases h
  | some c=>exact (List.getElem?_eq_some_iff.1 hc).1
theorem ko {T:TypeId} {n:Nm} {i:Nat} {c:Ch} {b:A1} (ht:Nat.blt t nt=true) (hT:mC P T=true) (hx:S.op x=some (o1 (.ptr n i))) (hc:S.ch n=some c) (hb:c.d.at_ n i=some b):
  bQ P nt ⟨some t, .load T x,ty,ps,af,gd⟩ S (S.put t (o1 b)):=
 bQ.pure rfl ht fun _ _ η _ a w hs=>by
  obtain ⟨hd,h1,_,h3⟩:=hs.chunk hc
  have hd1:cq η (.ptr n i) (a.eval x):=hs.gk hx
  obtain ⟨bb,o,e1,e2⟩:=hd1.2 hd h1
  obtain ⟨b',o',u,f1,f2,f3⟩:=h3.get (dQ.y7 hb)
  rw [e1] at f1;injection f1 with f1;injection f1 with f1 f1';subst f1 f1'
  exact ⟨u,by simp [execOp,e2,mS hT f2],vm f3 hb⟩
theorem xu {T:TypeId} {n:Nm} {i j:Nat} {c:Ch} {E:TypeId} {vss:List (List Value)} {holes:List Nat} {vs:List Value} {v:Value} (ht:Nat.blt t nt=true) (hT:mC P T=true) (hx:S.op x=some (o1 (.eptr n i j))) (hc:S.ch n=some c)
  (hd:c.d= .rows E vss holes) (hh:i ∉ holes) (hi:vss[i]? =some vs) (hj:vs[j]? =some v):bQ P nt ⟨some t, .load T x,ty,ps,af,gd⟩ S (S.put t (vv v)):=
 bQ.pure rfl ht fun _ _ η ω a w hs=>by
  obtain ⟨hq,h1,_,h3⟩:=hs.chunk hc
  have hd1:cq η (.eptr n i j) (a.eval x):=hs.gk hx
  obtain ⟨bb,o,e1,e2⟩:=hd1.2 hq h1
  rw [hd] at h3
  obtain ⟨b',o',u,f1,f2,f3⟩:=h3.get (j:=i) (List.getElem?_eq_some_iff.1 hi).1
  obtain ⟨_,_,g3⟩:=f3.2 hh vs hi
  obtain ⟨b'',o'',u',k1,k2,k3⟩:=g3.get (j:=j) (List.getElem?_eq_some_iff.1 hj).1
  rw [e1] at k1;injection k1 with k1;injection k1 with k1 k1';subst k1 k1'
  rw [hj] at k3
  obtain rfl:=Option.some.inj k3
  exact ⟨v,by simp [execOp,e2,mS hT k2],rfl⟩
def jQ (P:Program) (T:TypeId) (k:Nat):Bool:=
 match P.underlying T with
 | some (.slice e)=>match P.info? e with
  | some i=>i.size == k
  | none=>false
 | _=>false
theorem lq {T:TypeId} {k:Nat} (h:jQ P T k=true):∃e i,P.underlying T=some (.slice e)∧P.info? e=some i∧i.size=k:=by
 unfold jQ at h
 split at h
 ·rename_i e he
  split at h
  ·rename_i i hi
   exact ⟨e,i,he,hi,by simpa using h⟩
  ·cases h
 ·cases h
theorem iP {T:TypeId} {k:Nat} (h:jQ P T k=true) {b o n c j:Nat} (hj:j < n) {ki:IntKind} {i:Int} (hi:i=(j:Int)) (w:World):
  (Instr.indexAt T (.slice (some ⟨b,o,none⟩) n c) (.int ki i)).run P w= .ok (.pointer (some ⟨b,o + j * k,none⟩)) w:=by
 obtain ⟨e,inf,h1,h2,rfl⟩:=lq h
 subst hi
 have hj':((j:Int) < (n:Int)):=by omega
 have h0:(0:Int)≤(j:Int):=by omega
 simp [Instr.indexAt,asIntOf,run_underlying h1,hj,sizeOf,typeInfo,h2,Addr.add_lit]
theorem dt {T:TypeId} {n:Nm} {off len j k:Nat} {c:Ch} {ki:IntKind} {i:Int} (ht:Nat.blt t nt=true) (hx:S.op x=some (o1 (.sl n off len))) (hy:S.op y=some (vv (.int ki i))) (hc:S.ch n=some c) (hk:c.k=k) (hT:jQ P T k=true)
  (hi:i=(j:Int)) (hj:j < len) (hl:(off + len) * k≤c.d.len) (hk0:0 < k):bQ P nt ⟨some t, .indexAddr T x y,ty,ps,af,gd⟩ S (S.put t (o1 (.ptr n ((off + j) * k)))):=
 bQ.pure rfl ht fun _ _ η _ a w hs=>by
  obtain ⟨hd,h1,h2,h3⟩:=hs.chunk hc
  have hd1:cq η (.sl n off len) (a.eval x):=hs.gk hx
  obtain ⟨ao,e1,e2,e3⟩:=hd1.2 hd h1
  have hl0:0 < c.d.len:=Nat.lt_of_lt_of_le (Nat.mul_pos (by omega) hk0) hl
  obtain ⟨b',o',u,f1,f2,f3⟩:=h3.get hl0
  have hao:ao=some ⟨b',o' + off * k,none⟩:=by
   rcases Nat.eq_zero_or_pos off with h0 | h0
   ·rw [e2 h0,f1,h0];simp
   ·rw [e3 h0 ?_,f1]
    ·simp [h2,hk]
    ·have hcap:=h3.cap
     rw [h2,hk] at hcap
     have h5:(off + len) * k≤hd.c * k:=Nat.le_trans hl hcap
     have:=Nat.le_of_mul_le_mul_right h5 hk0
     omega
  subst hao
  refine ⟨.pointer (some ⟨b',o' + off * k + j * k,none⟩),by simp only [execOp,e1,hs.fL hy];simp [iP hT hj hi],⟨_,rfl⟩,fun hd' he=> ?_⟩
  rw [h1] at he;obtain rfl:=Option.some.inj he
  exact ⟨b',o',f1,by rw [Nat.add_mul,Nat.add_assoc]⟩
end
end Go.Proofs.Ytekbhbcgoadciaa
namespace Go.Proofs.Ytekbhbcgoadciaa
open Go.RowKit
section
variable {P:Program} {nt:Nat} {S S':St} {w0 w:World} {ω0:kd} {ω:bE} {η:Env} {a:Act}
variable {t:Nat} {ty:TypeId} {ps:String} {af:Array Edge} {gd:Option (Nat×Bool)} {x y:Operand} {av:AV}
theorem nJ {T:TypeId} {n:Nm} {i0 off len j:Nat} {c:Ch} {E:TypeId} {vss:List (List Value)} {holes:List Nat} {vs:List Value} {ki:IntKind} {i:Int} (ht:Nat.blt t nt=true) (hx:S.op x=some (o1 (.esl n i0 off len)))
  (hy:S.op y=some (vv (.int ki i))) (hc:S.ch n=some c) (hd:c.d= .rows E vss holes) (hT:jQ P T 1=true) (hh:i0 ∉ holes) (hi0:vss[i0]? =some vs) (hi:i=(j:Int)) (hj:j < len) (hl:off + len≤vs.length):
  bQ P nt ⟨some t, .indexAddr T x y,ty,ps,af,gd⟩ S (S.put t (o1 (.eptr n i0 (off + j)))):=
 bQ.pure rfl ht fun _ _ η _ a w hs=>by
  obtain ⟨hq,h1,h2,h3⟩:=hs.chunk hc
  have hd1:cq η (.esl n i0 off len) (a.eval x):=hs.gk hx
  obtain ⟨ao,e1,e2,e3⟩:=hd1.2 hq h1
  rw [hd] at h3
  obtain ⟨_,_,_,_,_,f3⟩:=h3.get (j:=i0) (List.getElem?_eq_some_iff.1 hi0).1
  obtain ⟨_,g2,g3⟩:=f3.2 hh vs hi0
  obtain ⟨b',o',u',k1,k2,k3⟩:=g3.get (j:=0) (by omega)
  have hao:ao=some ⟨b',o' + off,none⟩:=by
   rcases Nat.eq_zero_or_pos off with h0 | h0
   ·rw [e2 h0,k1,h0];simp
   ·rw [e3 h0 ?_,k1]
    ·simp [g2]
    ·have hcap:=g3.cap
     rw [g2] at hcap
     omega
  subst hao
  refine ⟨.pointer (some ⟨b',o' + off + j * 1,none⟩),by simp only [execOp,e1,hs.fL hy];simp [iP hT hj hi],⟨_,rfl⟩,fun hd' he=> ?_⟩
  exact ⟨b',o',k1,by rw [Nat.mul_one,Nat.add_assoc]⟩
def Cx (P:Program) (T:TypeId) (n k:Nat):Bool:=
 match P.underlying T with
 | some (.array m e)=>m == n && (match P.info? e with | some i=>i.size == k | none=>false)
 | _=>false
theorem xh {T:TypeId} {n k:Nat} (h:Cx P T n k=true):∃e i,P.underlying T=some (.array n e)∧P.info? e=some i∧i.size=k:=by
 unfold Cx at h
 split at h
 ·rename_i m e he
  simp only [Bool.and_eq_true,beq_iff_eq] at h
  obtain ⟨rfl,h⟩:=h
  split at h
  ·rename_i i hi
   exact ⟨e,i,he,hi,by simpa using h⟩
  ·cases h
 ·cases h
theorem cT {T:TypeId} {n:Nm} {off len j k:Nat} {c:Ch} {ki:IntKind} {i:Int} (ht:Nat.blt t nt=true) (hx:S.op x=some (o1 (.ptr n off))) (hy:S.op y=some (vv (.int ki i))) (hc:S.ch n=some c) (hT:Cx P T len k=true)
  (hi:i=(j:Int)) (hj:j < len):bQ P nt ⟨some t, .indexAddr T x y,ty,ps,af,gd⟩ S (S.put t (o1 (.ptr n (off + j * k)))):=
 bQ.pure rfl ht fun _ _ η _ a w hs=>by
  obtain ⟨hd,h1,h2,h3⟩:=hs.chunk hc
  have hd1:cq η (.ptr n off) (a.eval x):=hs.gk hx
  obtain ⟨b,o,e1,e2⟩:=hd1.2 hd h1
  obtain ⟨e,inf,g1,g2,rfl⟩:=xh hT
  subst hi
  have hj':((j:Int) < (len:Int)):=by omega
  refine ⟨.pointer (some ⟨b,o + off + j * inf.size,none⟩), ?_,⟨_,rfl⟩,fun hd' he=> ?_⟩
  ·simp only [execOp,e2,hs.fL hy]
   simp [Instr.indexAt,asIntOf,run_underlying g1,Instr.sureAddr,hj,sizeOf,typeInfo,g2,Addr.add_lit]
  ·rw [h1] at he;obtain rfl:=Option.some.inj he
   exact ⟨b,o,e1,by rw [Nat.add_assoc]⟩
def sliceB (P:Program) (T:TypeId):Bool:=
 match P.underlying T with
 | some (.slice _)=>true
 | _=>false
theorem jU {T:TypeId} (h:sliceB P T=true):∃e,P.underlying T=some (.slice e):=by
 unfold sliceB at h
 split at h
 ·exact ⟨_,by assumption⟩
 ·cases h
theorem AL {T:TypeId} (h:sliceB P T=true) (ao:Option Addr) (n c:Nat) (w:World):(Builtin.len_ #[T] ty #[.slice ao n c]).run P w= .ok (.int .i64 n) w:=by
 obtain ⟨e,he⟩:=jU h
 simp [Builtin.len_,run_underlying he,goInt]
def A1.len:A1→Option Nat
 | .sl _ _ n=>some n
 | .esl _ _ _ n=>some n
 | .val (.slice _ n _)=>some n
 | _=>none
theorem cq.len_ {b:A1} {n:Nat} {u:Value} (h:cq η b u) (hn:b.len=some n):∃ao c,u= .slice ao n c:=by
 cases b with
 | sl x off m=>obtain rfl:=Option.some.inj hn;exact h.1
 | esl x i off m=>obtain rfl:=Option.some.inj hn;exact h.1
 | val v=>
  have h:u=v:=h
  subst h
  cases u<;>simp [A1.len] at hn
  rename_i ao m c
  subst hn;exact ⟨ao,c,rfl⟩
 | _=>cases hn
theorem a8 {T:TypeId} {b:A1} {n:Nat} (ht:Nat.blt t nt=true) (hx:S.op x=some (o1 b)) (hn:b.len=some n) (hT:sliceB P T=true):
  bQ P nt ⟨some t, .call { callee:= .builtin .len,args:= #[x],argTypes:= #[T] },ty,ps,af,gd⟩ S (S.put t (vv (.int .i64 n))):=
 bQ.pure rfl ht fun _ _ η _ a w hs=>by
  have hd1:cq η b (a.eval x):=hs.gk hx
  obtain ⟨ao,c,e⟩:=hd1.len_ hn
  exact ⟨.int .i64 n,by simp [execOp,resolve,invoke,builtin,e,AL hT],rfl⟩
theorem Ar {k:IntKind} {m n:Int} (w:World) (ts:Array TypeId):(Builtin.min_ ts ty #[.int k m, .int k n]).run P w= .ok (.int k (if n < m then n else m)) w:=by
 simp [Builtin.min_,Builtin.min2]
theorem AG {k:IntKind} {m n:Int} (w:World) (ts:Array TypeId):(Builtin.max_ ts ty #[.int k m, .int k n]).run P w= .ok (.int k (if n > m then n else m)) w:=by
 simp [Builtin.max_,Builtin.max2]
theorem AF {ts:Array TypeId} {k:IntKind} {m n:Int} (ht:Nat.blt t nt=true) (hx:S.op x=some (vv (.int k m))) (hy:S.op y=some (vv (.int k n))):
  bQ P nt ⟨some t, .call { callee:= .builtin .min,args:= #[x,y],argTypes:=ts },ty,ps,af,gd⟩ S (S.put t (vv (.int k (if n < m then n else m)))):=
 bQ.pure rfl ht fun _ _ η _ a w hs=>⟨_,by simp [execOp,resolve,invoke,builtin,hs.fL hx,hs.fL hy,Ar],rfl⟩
theorem vt {ts:Array TypeId} {k:IntKind} {m n:Int} (ht:Nat.blt t nt=true) (hx:S.op x=some (vv (.int k m))) (hy:S.op y=some (vv (.int k n))):
  bQ P nt ⟨some t, .call { callee:= .builtin .max,args:= #[x,y],argTypes:=ts },ty,ps,af,gd⟩ S (S.put t (vv (.int k (if n > m then n else m)))):=
 bQ.pure rfl ht fun _ _ η _ a w hs=>⟨_,by simp [execOp,resolve,invoke,builtin,hs.fL hx,hs.fL hy,AG],rfl⟩
def z9 (S:St) (z:Option Operand) (dflt l:Nat):Prop:=
 match z with
 | none=>l=dflt
 | some z=>∃ki i,S.op z=some (vv (.int ki i))∧i=(l:Int)
theorem dk {S:St} {l:Nat} :z9 S none l l:=rfl
theorem eu {S:St} {z:Operand} {d l:Nat} {ki:IntKind} {i:Int} (h:S.op z=some (vv (.int ki i))) (hi:i=(l:Int)):z9 S (some z) d l:=⟨ki,i,h,hi⟩
theorem run_sliceBound {ki:IntKind} {l y:Nat} (h:l≤y) (cd:BoundsCode) (w:World):(Instr.sliceBound (.int ki (l:Int)) y cd).run P w= .ok l w:=by
 simp [Instr.sliceBound,asIntOf,h]
theorem nP {T:TypeId} {e:TypeId} {inf:TypeInfo} (h1:P.underlying T=some (.slice e)) (h2:P.info? e=some inf) (hs:dj w0 ω0 nt S η ω a w) {lo hi:Option Operand} {l h len m:Nat} {ao:Option Addr} (hlo:z9 S lo 0 l) (hhi:z9 S hi len h) (hlh:l≤h) (hhm:h≤m):
  (Instr.sliceAt T (.slice ao len m) (lo.map a.eval) (hi.map a.eval) none).run P w= .ok (.slice (if m=l then ao else ao.map (·.add (l * inf.size))) (h - l) (m - l)) w:=by
 have key:(Instr.sliceBounds true len m (lo.map a.eval) (hi.map a.eval) none).run P w= .ok (l,h,m) w:=by
  unfold Instr.sliceBounds
  cases hi with
  | none=>
   obtain rfl:h=len:=hhi
   cases lo with
   | none=>obtain rfl:l=0:=hlo;simp
   | some z=>obtain ⟨ki,i,hz,rfl⟩:=hlo;simp [hs.fL hz,run_sliceBound hlh]
  | some z'=>
   obtain ⟨ki',i',hz',rfl⟩:=hhi
   cases lo with
   | none=>obtain rfl:l=0:=hlo;simp [hs.fL hz',run_sliceBound hhm]
   | some z=>obtain ⟨ki,i,hz,rfl⟩:=hlo;simp [hs.fL hz',hs.fL hz,run_sliceBound hhm,run_sliceBound hlh]
 simp [Instr.sliceAt,run_underlying h1,Instr.slice,key,sizeOf,typeInfo,h2]
theorem mM {T:TypeId} {n:Nm} {off len k l h:Nat} {c:Ch} {lo hi:Option Operand} (ht:Nat.blt t nt=true) (hx:S.op x=some (o1 (.sl n off len))) (hc:S.ch n=some c) (hk:c.k=k) (hT:jQ P T k=true) (hk0:0 < k)
  (hlo:z9 S lo 0 l) (hhi:z9 S hi len h) (hlh:l≤h) (hhl:h≤len) (hl:(off + len) * k≤c.d.len):bQ P nt ⟨some t, .slice T x lo hi none,ty,ps,af,gd⟩ S (S.put t (o1 (.sl n (off + l) (h - l)))):=
 bQ.pure rfl ht fun _ _ η _ a w hs=>by
  obtain ⟨hd,h1,h2,h3⟩:=hs.chunk hc
  have hd1:cq η (.sl n off len) (a.eval x):=hs.gk hx
  obtain ⟨ao,e1,e2,e3⟩:=hd1.2 hd h1
  obtain ⟨e,inf,g1,g2,rfl⟩:=lq hT
  have hcap:=h3.cap
  rw [h2,hk] at hcap
  have h5:off + len≤hd.c:=Nat.le_of_mul_le_mul_right (Nat.le_trans hl hcap) hk0
  refine ⟨.slice (if hd.c - off=l then ao else ao.map (·.add (l * inf.size))) (h - l) (hd.c - off - l),by simp only [execOp,e1];simp [nP g1 g2 hs hlo hhi hlh (m:=hd.c - off) (by omega)],⟨_,_,rfl⟩,fun hd' he=> ?_⟩
  rw [h1] at he;obtain rfl:=Option.some.inj he
  refine ⟨_,by rw [Nat.sub_sub],fun h0=> ?_,fun h0 hlt=> ?_⟩
  ·obtain ⟨rfl,rfl⟩:off=0∧l=0:=by omega
   rw [e2 rfl]
   split
   ·rfl
   ·simp [Addr.add]
  ·rw [if_neg (by omega)]
   by_cases hl0:0 < c.d.len
   ·obtain ⟨b',o',u,f1,_,_⟩:=h3.get hl0
    rcases Nat.eq_zero_or_pos off with h00 | h00
    ·subst h00;rw [e2 rfl,f1];simp [Addr.add_lit,h2,hk]
    ·rw [e3 h00 (by omega),f1];simp [Addr.add_lit,h2,hk,Nat.add_mul,Nat.add_assoc]
   ·exfalso
    have h6:(off + len) * inf.size≤0:=by omega
    have h7:off + len=0:=by
     rcases Nat.eq_zero_or_pos (off + len) with h8 | h8
     ·exact h8
     ·have:=Nat.mul_pos h8 hk0;omega
    omega
end
end Go.Proofs.Ytekbhbcgoadciaa
namespace Go.Proofs.Ytekbhbcgoadciaa
open Go.RowKit
section
variable {P:Program} {nt:Nat} {S S':St} {w0 w:World} {ω0:kd} {ω:bE} {η:Env} {a:Act}
variable {t:Nat} {ty:TypeId} {ps:String} {af:Array Edge} {gd:Option (Nat×Bool)} {x y:Operand} {av:AV}
def bE.new (ω:bE) (b:Nat) (o:Nm×Option Nat):bE:=fun b'=>if b'=b then some o else ω b'
theorem vj (S:St) (ω:bE) (w:World) (o:Obj) (ow:Nm×Option Nat):Calm S ω w (bE.new ω w.heap.size ow) (w.alloc o):=
 ⟨rfl,rfl,rfl,by simp,fun b hb _=>⟨Below.heap_alloc w o b hb,by simp [bE.new,Nat.ne_of_lt hb]⟩⟩
theorem dj.alloc (h:dj w0 ω0 nt S η ω a w) {x:Nm} {c:Ch} {cs:Array Value} {r:Nat→Hd} {n:Nat} (hown:c.own=true) (hn:cs.size=n * c.k) (hl:c.d.len≤n * c.k) (hm:n≤maxLen)
  (hc:∀j,j < c.d.len→∃u,cs[j]? =some u∧bW (η.new x ⟨some ⟨w.heap.size,0,none⟩,n,c.k⟩ r) (bE.new ω w.heap.size (x,none)) (w.alloc (.cells cs c.E)) true x c.d j u):
  dj w0 ω0 nt (S.new x c) (η.new x ⟨some ⟨w.heap.size,0,none⟩,n,c.k⟩ r) (bE.new ω w.heap.size (x,none)) a (w.alloc (.cells cs c.E)):=
 h.lay (vj S ω w _ _) ⟨rfl,by
  rw [hown]
  refine .inr ⟨w.heap.size,0,cs,rfl,by simp [bE.new],heap_alloc_new w _,⟨rfl,hn⟩,hl,hm,fun j hj=> ?_⟩
  obtain ⟨u,h1,h2⟩:=hc j hj
  exact ⟨u,by simpa using h1,h2⟩⟩
def A2.list:A2→List A1
 | .one a=> [a]
 | .agg l=>l
theorem um {a2:A2} {u:Value} (h:fi η a2 u) (h1:∀v,a2= .one (.val v)→v.oneCell'=true):u.cells.size=a2.list.length∧∀(j:Nat) (b:A1),a2.list[j]? =some b→∃u',u.cells[j]? =some u'∧cq η b u':=by
 cases a2 with
 | agg l=>
  obtain ⟨us,rfl,h2,h3⟩:=h
  exact ⟨h2,h3⟩
 | one b=>
  have ho:u.oneCell'=true:=cq.one (a:=b) h fun v hv=>h1 v (by rw [hv])
  have hc:u.cells= #[u]:=by cases u<;>first | rfl | cases ho
  rw [hc]
  refine ⟨rfl,fun j b' hb=> ?_⟩
  cases j with
  | zero=>simp [A2.list] at hb;subst hb;exact ⟨u,by simp,h⟩
  | succ j=>simp [A2.list] at hb
def A2.okB:A2→Bool
 | .one (.val v)=>v.oneCell'
 | _=>true
theorem A2.ky {a2:A2} (h:a2.okB=true):∀v,a2= .one (.val v)→v.oneCell'=true:=by rintro v rfl;exact h
theorem cS {T:TypeId} {a2:A2} (ht:Nat.blt t nt=true) (hx:S.op x=some (.s a2)) (h1:a2.okB=true) (hf:a2.list.any (A1.has t)=false):
  bQ P nt ⟨some t, .box T x,ty,ps,af,gd⟩ S ((S.new t ⟨true,T,a2.list.length, .flat a2.list⟩).put t (o1 (.ptr t 0))):=
 bQ.of _ fun w0 ω0 η ω a w hs=>by
  have hd:fi η a2 (a.eval x):=hs.gk hx
  obtain ⟨h2,h3⟩:=um hd (A2.ky h1)
  refine ⟨.pointer (some ⟨w.heap.size,0,none⟩),w.alloc (.cells (a.eval x).cells T),by simp [execOp,Instr.box,newVar,newRow], ?_⟩
  have hal:=hs.alloc (x:=t) (c:=⟨true,T,a2.list.length, .flat a2.list⟩) (cs:=(a.eval x).cells) (r:=fun _=>⟨none,0,1⟩) (n:=1) rfl (by simp [h2]) (by simp [dQ.len]) (by simp [maxLen]) fun j hj=>by
   obtain ⟨u,hu,hdu⟩:=h3 j a2.list[j] (List.getElem?_eq_getElem hj)
   refine ⟨u,hu,fun b hb=> ?_⟩
   rw [List.getElem?_eq_getElem hj] at hb
   obtain rfl:=Option.some.inj hb
   refine hdu.mono fun y hy=>Env.new_ne η _ _ y fun e=> ?_
   subst e
   have:=List.any_eq_false.1 hf _ (List.getElem_mem hj)
   rw [hy] at this;exact this rfl
  exact ⟨_,_,hal.eY (by simpa using ht) ⟨⟨_,rfl⟩,fun hd' he=>by simp [Env.new] at he;subst he;exact ⟨_,0,rfl,by simp⟩⟩⟩
theorem xE {T:TypeId} {z:Value} {i:TypeInfo} (ht:Nat.blt t nt=true) (hi:P.info? T=some i) (hz:i.zero=some z):
  bQ P nt ⟨some t, .alloc T,ty,ps,af,gd⟩ S ((S.new t ⟨true,T,z.cells.size, .flat (z.cells.toList.map .val)⟩).put t (o1 (.ptr t 0))):=
 bQ.of _ fun w0 ω0 η ω a w hs=>by
  refine ⟨.pointer (some ⟨w.heap.size,0,none⟩),w.alloc (.cells z.cells T),by simp [execOp,Instr.alloc,zeroValue,typeInfo,hi,hz,newVar,newRow], ?_⟩
  have hal:=hs.alloc (x:=t) (c:=⟨true,T,z.cells.size, .flat (z.cells.toList.map .val)⟩) (cs:=z.cells) (r:=fun _=>⟨none,0,1⟩) (n:=1) rfl (by simp) (by simp [dQ.len]) (by simp [maxLen]) fun j hj=>by
   have hj':j < z.cells.size:=by simpa [dQ.len] using hj
   refine ⟨z.cells[j],by simp,fun b hb=> ?_⟩
   simp [hj'] at hb
   subst hb;exact rfl
  exact ⟨_,_,hal.eY (by simpa using ht) ⟨⟨_,rfl⟩,fun hd' he=>by simp [Env.new] at he;subst he;exact ⟨_,0,rfl,by simp⟩⟩⟩
def mY (P:Program) (T E k:Nat):Bool:=
 match P.underlying T with
 | some (.slice e)=>e == E && (match P.info? E with
  | some i=>i.size == k && decide (i.bytes≤64) && (match i.zero with | some z=>z.cells.size == k | none=>false)
  | none=>false)
 | _=>false
theorem dA {T E k:Nat} (h:mY P T E k=true):∃i z,P.underlying T=some (.slice E)∧P.info? E=some i∧i.size=k∧i.bytes≤64∧i.zero=some z∧z.cells.size=k:=by
 unfold mY at h
 split at h
 ·rename_i e he
  simp only [Bool.and_eq_true,beq_iff_eq] at h
  obtain ⟨rfl,h⟩:=h
  split at h
  ·rename_i i hi
   simp only [Bool.and_eq_true,beq_iff_eq,decide_eq_true_eq] at h
   obtain ⟨⟨h1,h2⟩,h3⟩:=h
   split at h3
   ·rename_i z hz
    exact ⟨i,z,he,hi,h1,h2,hz,by simpa using h3⟩
   ·cases h3
  ·cases h
 ·cases h
theorem dE {x:Nm} {b k n c:Nat} {r:Nat→Hd} :Den (η.new x ⟨some ⟨b,0,none⟩,c,k⟩ r) (o1 (.sl x 0 n)) (.slice (some ⟨b,0,none⟩) n c):=
 ⟨⟨_,_,rfl⟩,fun hd' he=>by simp [Env.new] at he;subst he;exact ⟨_,rfl,fun _=>rfl,fun h=>absurd h (by omega)⟩⟩
theorem yi (f:Nat→Value):Array.map f (Array.range 0)= #[]:=by apply Array.ext';simp [Array.toList_range,List.range_succ]
theorem vg (f:Nat→Value):Array.map f (Array.range 1)= #[f 0]:=by apply Array.ext';simp [Array.toList_range,List.range_succ]
theorem vb (f:Nat→Value):Array.map f (Array.range 2)= #[f 0,f 1]:=by apply Array.ext';simp [Array.toList_range,List.range_succ]
theorem du {T E k:Nat} (ht:Nat.blt t nt=true) (hT:mY P T E k=true):
  bQ P nt ⟨some t, .buildSlice T 0 #[],ty,ps,af,gd⟩ S ((S.new t ⟨true,E,k, .bG []⟩).put t (o1 (.sl t 0 0))):=
 bQ.of _ fun w0 ω0 η ω a w hs=>by
  obtain ⟨i,z,h1,h2,h3,h4,h5,h6⟩:=dA hT
  refine ⟨.slice (some ⟨w.heap.size,0,none⟩) 0 0,w.alloc (.cells #[] E),by simp [execOp,Instr.buildSlice,run_underlying h1,sizeOf,typeInfo,h2,Instr.fill,newRow,yi], ?_⟩
  have hal:=hs.alloc (x:=t) (c:=⟨true,E,k, .bG []⟩) (cs:= #[]) (r:=fun _=>⟨none,0,1⟩) (n:=0) rfl (by simp) (by simp [dQ.len]) (by simp [maxLen]) fun j hj=>absurd hj (by simp [dQ.len])
  exact ⟨_,_,hal.eY (by simpa using ht) dE⟩
theorem jg {v:Value} (h:v.oneCell'=true):v.cells= #[v]:=by cases v<;>first | rfl | cases h
theorem lX {T E:Nat} {x0:Operand} {b0:A1} (ht:Nat.blt t nt=true) (hT:mY P T E 1=true) (hx:S.op x0=some (o1 b0)) (h1:(A2.one b0).okB=true) (hf:b0.has t=false):
  bQ P nt ⟨some t, .buildSlice T 1 #[(0,x0)],ty,ps,af,gd⟩ S ((S.new t ⟨true,E,1, .flat [b0]⟩).put t (o1 (.sl t 0 1))):=
 bQ.of _ fun w0 ω0 η ω a w hs=>by
  obtain ⟨i,z,k1,k2,k3,k4,k5,k6⟩:=dA hT
  have hd0:cq η b0 (a.eval x0):=hs.gk hx
  have ho:(a.eval x0).oneCell'=true:=hd0.one fun v hv=>A2.ky h1 v (by rw [hv])
  refine ⟨.slice (some ⟨w.heap.size,0,none⟩) 1 1,w.alloc (.cells #[a.eval x0] E), ?_, ?_⟩
  ·simp [execOp,Instr.buildSlice,run_underlying k1,sizeOf,typeInfo,k2,k3,zeroValue,k5,Instr.fill,newRow,jg ho,vg]
  ·have hal:=hs.alloc (x:=t) (c:=⟨true,E,1, .flat [b0]⟩) (cs:= #[a.eval x0]) (r:=fun _=>⟨none,0,1⟩) (n:=1) rfl (by simp) (by simp [dQ.len]) (by simp [maxLen]) fun j hj=>by
    have hj0:j=0:=by simp [dQ.len] at hj;omega
    subst hj0
    refine ⟨a.eval x0,by simp,fun b hb=> ?_⟩
    simp at hb;subst hb
    exact hd0.mono fun y hy=>Env.new_ne η _ _ y fun e=>by subst e;rw [hf] at hy;cases hy
   exact ⟨_,_,hal.eY (by simpa using ht) dE⟩
end
end Go.Proofs.Ytekbhbcgoadciaa
namespace Go.Proofs.Ytekbhbcgoadciaa
open Go.RowKit
section
variable {P:Program} {nt:Nat} {S S':St} {w0 w:World} {ω0:kd} {ω:bE} {η:Env} {a:Act}
variable {t:Nat} {ty:TypeId} {ps:String} {af:Array Edge} {gd:Option (Nat×Bool)} {x y:Operand} {av:AV}
def gV (P:Program) (T:TypeId) (k:Nat):Bool:=
 match P.info? T with
 | some i=>i.size == k
 | none=>false
theorem mr {T:TypeId} {k:Nat} (h:gV P T k=true) (w:World):(sizeOf T).run P w= .ok k w:=by
 unfold gV at h
 split at h
 ·rename_i i hi
  have:i.size=k:=by simpa using h
  simp [sizeOf,typeInfo,hi,this]
 ·cases h
theorem jM {T:TypeId} (h:gV P T 1=true) {p:Addr} {u v:Value} (hc:w.cell? p=some u) (hf:w.frozen? p=false) (h1:v.oneCell'=true):(Instr.storeAt T (.pointer (some p)) v).run P w= .ok () (w.setCell p v):=by
 have hst:(store p v).run P w= .ok () (w.setCell p v):=by
  cases v<;>first | (simp [store,Sem.run,hc,hf];done) | exact absurd h1 (by simp [Value.oneCell'])
 simp [Instr.storeAt,Instr.sureAddr,storeVar,jg h1,mr h,storeCells,Addr.add,hst]
theorem bQ.unit {o:Oper} (hd:o.dst=none) (h:∀w0 ω0 η ω a w,dj w0 ω0 nt S η ω a w→∃w',(execOp a.eval o).run P w= .ok .skip w'∧Sat w0 ω0 nt S' a w'):bQ P nt o S S':=by
 refine ⟨fun w0 ω0 a w Q ⟨η,ω,hs⟩=> ?_⟩
 obtain ⟨w',h1,h2⟩:=h w0 ω0 η ω a w hs
 unfold Oper.wp
 rw [h1]
 simp only [Oper.upon,hd,Act.put]
 exact h2
theorem ra {b:Nat} {ow:Nm×Option Nat} (hb:ω b=some ow) (hn:S.ch ow.1=none) (p:Addr) (hp:p.block=b) (u:Value):Calm S ω w ω (w.setCell p u):=
 ⟨rfl,rfl,rfl,by simp [World.setCell],fun b' _ hl=>⟨Below.heap_setCell w p u b' (by
  intro e
  rw [hp] at e;subst e
  rcases hl with h0 | ⟨y,i,c,h0,h1⟩
  ·rw [hb] at h0;cases h0
  ·rw [hb] at h0;obtain rfl:=Option.some.inj h0
   rw [hn] at h1;cases h1),rfl⟩⟩
theorem heap_set {b o:Nat} {cs:Array Value} {E:TypeId} {fr:Nat×Nat} (h:w.heap[b]? =some (.cells cs E fr)) (u:Value):(w.setCell ⟨b,o,none⟩ u).heap[b]? =some (.cells (cs.setIfInBounds o u) E fr):=by
 simp [World.setCell,Array.getElem?_modify,h]
theorem kG {b o:Nat} {cs:Array Value} {E:TypeId} (h:w.heap[b]? =some (.cells cs E (0,0))):w.frozen? ⟨b,o,none⟩=false:=by
 simp [World.frozen?,h]
theorem gL {b:Nat} {ow:Nm×Option Nat} (hb:ω b=some ow) (p:Addr) (hp:p.block=b) (u:Value):Same ω w ω (w.setCell p u) (fun o=>o≠some ow):=
 ⟨by simp [World.setCell],fun b' _ hl=>⟨Below.heap_setCell w p u b' (by
  intro e
  rw [hp] at e;subst e
  exact hl hb),rfl⟩⟩
theorem bW.Dw {own:Bool} {n:Nm} {d:dQ} {j:Nat} {u:Value} {w':World} {p:Option (Nm×Option Nat)→Prop} (hs:Same ω w ω w' p) (hp:p none) (hp':∀i,p (some (n,some i))) (h:bW η ω w own n d j u):bW η ω w' own n d j u:=by
 cases d with
 | flat l=>exact h
 | bG vs=>exact h
 | rows E vss holes=>exact ⟨h.1,fun hj vs hvs=>have ⟨h1,h2,h3⟩:=h.2 hj vs hvs;⟨h1,h2,h3.same hs hp (hp' j) fun _ _ h=>h⟩⟩
 | mix cs=>exact ⟨h.1,fun c hc=>(h.2 c hc).move rfl fun _ _ _ _ _ h3=>h3.same hs hp (hp' j) fun _ _ h=>h⟩
theorem dj.C0 (hs:dj w0 ω0 nt S η ω a w) {n:Nm} {hd:Hd} {c':Ch} {b:Nat} {ow:Option Nat} (hn:η.h n=some hd) (hb:ω b=some (n,ow)) (p:Addr) (hp:p.block=b) (u:Value) (hc:dC η ω (w.setCell p u) n hd c'):
  dj w0 ω0 nt (S.set n c') η ω a (w.setCell p u):=hs.write hn (ra hb (by simp [eH]) p hp u) hc
theorem dj.uT (hs:dj w0 ω0 nt S η ω a w) {n:Nm} {c:Ch} {d':dQ} {i:Nat} {p v:Value} {T:TypeId} (hp:cq η (.ptr n i) p) (hc:S.ch n=some c) (hown:c.own=true) (hi:i < c.d.len) (hT:gV P T 1=true) (h1:v.oneCell'=true)
  (hl:d'.len=c.d.len) (hd:∀w' j u,j≠i→bW η ω w' true n c.d j u→bW η ω w' true n d' j u) (hv:∀w',bW η ω w' true n d' i v):
  ∃w',(Instr.storeAt T p v).run P w= .ok () w'∧dj w0 ω0 nt (S.set n { c with d:=d' }) η ω a w':=by
 obtain ⟨h,e1,e2,e3⟩:=hs.chunk hc
 obtain ⟨b,o,g1,rfl⟩:=hp.2 h e1
 rw [hown] at e3
 rcases e3 with ⟨_,_,h0⟩ | ⟨b',o',cs,f1,f2,f3,f4,f5,f6,f7⟩
 ·omega
 rw [g1] at f1;injection f1 with f1;injection f1 with f1 f1';subst f1 f1'
 obtain ⟨u,hu,_⟩:=f7 i hi
 have hcell:w.cell? ⟨b,o + i,none⟩=some u:=by rw [cell_of_row w b (o + i) cs c.E (0,0) f3];exact hu
 have hsz:o + i < cs.size:=by
  rcases Nat.lt_or_ge (o + i) cs.size with hlt | hge
  ·exact hlt
  ·rw [Array.getElem?_eq_none hge] at hu;cases hu
 refine ⟨_,jM hT hcell (kG f3) h1,hs.C0 e1 f2 _ rfl v ⟨e2, ?_⟩⟩
 show j6 c.own ω _ (n,none) h c.E d'.len (bW η ω _ c.own n d')
 rw [hown]
 refine .inr ⟨b,o,_,g1,f2,heap_set f3 v,by simpa using f4,by rw [hl];exact f5,f6,fun j hj=> ?_⟩
 rw [hl] at hj
 obtain ⟨u',hu',hk⟩:=f7 j hj
 by_cases e:j=i
 ·subst e
  exact ⟨v,by simp [hsz],hv _⟩
 ·refine ⟨u',by rw [Array.getElem?_setIfInBounds_ne (by omega)];exact hu',hd _ j u' e (hk.Dw (gL f2 _ rfl v) (by simp) (by simp))⟩
theorem eK {T:TypeId} {n:Nm} {i:Nat} {c:Ch} {l:List A1} {b:A1} (hx:S.op x=some (o1 (.ptr n i))) (hy:S.op y=some (o1 b)) (hc:S.ch n=some c) (hown:c.own=true) (hd:c.d= .flat l) (hi':Nat.blt i l.length=true) (hT:gV P T 1=true) (h1:(A2.one b).okB=true):
  bQ P nt ⟨none, .store T x y,ty,ps,af,gd⟩ S (S.set n { c with d:= .flat (l.set i b) }):=
 have hi:i < l.length:=by simpa using hi'
 bQ.unit rfl fun w0 ω0 η ω a w hs=>by
  have hb:cq η b (a.eval y):=hs.gk hy
  obtain ⟨w',k1,k2⟩:=hs.uT (P:=P) (T:=T) (d':= .flat (l.set i b)) (hs.gk hx) hc hown (by rw [hd];exact hi) hT (hb.one fun v hv=>A2.ky h1 v (by rw [hv])) (by rw [hd];simp [dQ.len])
   (fun w' j u hj hk b' hb'=>by rw [hd] at hk;rw [List.getElem?_set_ne (fun e=>hj e.symm)] at hb';exact hk b' hb')
   (fun w' b' hb'=>by simp [List.getElem?_set_self hi] at hb';subst hb';exact hb)
  exact ⟨w',by simp [execOp,k1],_,_,k2⟩
theorem uC {T:TypeId} {n:Nm} {i:Nat} {c:Ch} {vs:List Value} {v:Value} (hx:S.op x=some (o1 (.ptr n i))) (hy:S.op y=some (vv v)) (hc:S.ch n=some c) (hown:c.own=true) (hd:c.d= .bG vs) (hi:i < vs.length) (hT:gV P T 1=true) (h1:v.oneCell'=true):
  bQ P nt ⟨none, .store T x y,ty,ps,af,gd⟩ S (S.set n { c with d:= .bG (vs.set i v) }):=
 bQ.unit rfl fun w0 ω0 η ω a w hs=>by
  have hb:a.eval y=v:=hs.gk hy
  obtain ⟨w',k1,k2⟩:=hs.uT (P:=P) (T:=T) (d':= .bG (vs.set i v)) (v:=v) (hs.gk hx) hc hown (by rw [hd];exact hi) hT h1 (by rw [hd];simp [dQ.len])
   (fun w' j u hj hk=>by rw [hd] at hk;show (vs.set i v)[j]? =some u;rw [List.getElem?_set_ne (fun e=>hj e.symm)];exact hk)
   (fun w'=>by show (vs.set i v)[i]? =some v;rw [List.getElem?_set_self hi])
  exact ⟨w',by simp [execOp,hb,k1],_,_,k2⟩
theorem uY {T:TypeId} {n:Nm} {i j:Nat} {c:Ch} {E:TypeId} {vss:List (List Value)} {holes:List Nat} {vs:List Value} {v:Value} (hx:S.op x=some (o1 (.eptr n i j))) (hy:S.op y=some (vv v)) (hc:S.ch n=some c) (hown:c.own=true)
  (hd:c.d= .rows E vss holes) (hh:i ∉ holes) (hi:vss[i]? =some vs) (hj:j < vs.length) (hT:gV P T 1=true) (h1:v.oneCell'=true):
  bQ P nt ⟨none, .store T x y,ty,ps,af,gd⟩ S (S.set n { c with d:= .rows E (vss.set i (vs.set j v)) holes }):=
 bQ.unit rfl fun w0 ω0 η ω a w hs=>by
  have hb:a.eval y=v:=hs.gk hy
  have hp:cq η (.eptr n i j) (a.eval x):=hs.gk hx
  have hil:i < vss.length:=(List.getElem?_eq_some_iff.1 hi).1
  obtain ⟨h,e1,e2,e3⟩:=hs.chunk hc
  obtain ⟨bb,o,g1,g2⟩:=hp.2 h e1
  rw [hown,hd] at e3
  rcases e3 with ⟨_,_,h0⟩ | ⟨b',o',cs,f1,f2,f3,f4,f5,f6,f7⟩
  ·have h0:vss.length=0:=h0;omega
  obtain ⟨u,hu,hk⟩:=f7 i hil
  obtain ⟨rfl,k2,k3⟩:=hk.2 hh vs hi
  rcases k3 with ⟨q1,_⟩ | ⟨b2,o2,cs2,q1,q2,q3,q4,q5,q6,q7⟩
  ·rw [g1] at q1;cases q1
  rw [g1] at q1;injection q1 with q1;injection q1 with q1 q1';subst q1 q1'
  obtain ⟨u',hu',_⟩:=q7 j hj
  have hcell:w.cell? ⟨bb,o + j,none⟩=some u':=by rw [cell_of_row w bb (o + j) cs2 E (0,0) q3];exact hu'
  have hsz:o + j < cs2.size:=by
   rcases Nat.lt_or_ge (o + j) cs2.size with hlt | hge
   ·exact hlt
   ·rw [Array.getElem?_eq_none hge] at hu';cases hu'
  have hsame:=gL (w:=w) q2 ⟨bb,o + j,none⟩ rfl v
  refine ⟨w.setCell ⟨bb,o + j,none⟩ v,by simp [execOp,hb,g2,jM hT hcell (kG q3) h1],η,ω,hs.C0 e1 q2 _ rfl v ⟨e2, ?_⟩⟩
  show j6 c.own ω _ (n,none) h c.E (vss.set i (vs.set j v)).length (bW η ω _ c.own n (.rows E (vss.set i (vs.set j v)) holes))
  rw [hown]
  have hbb:b'≠bb:=fun e=>by subst e;rw [f2] at q2;cases q2
  refine .inr ⟨b',o',cs,f1,f2,(hsame.2 b' (ed f3) (by rw [f2];simp)).1.trans f3,f4,by rw [List.length_set];exact f5,f6,fun m hm=> ?_⟩
  rw [List.length_set] at hm
  obtain ⟨u2,hu2,hk2⟩:=f7 m hm
  refine ⟨u2,hu2,hk2.1,fun hm' vs' hvs'=> ?_⟩
  by_cases e:i=m
  ·subst e
   rw [List.getElem?_set_self hil] at hvs'
   obtain rfl:=Option.some.inj hvs'
   have hk2':=hk2.2 hm' vs hi
   refine ⟨by rw [List.length_set];exact hk2'.1,k2, .inr ⟨bb,o,_,g1,q2,heap_set q3 v,by simpa using q4,by rw [List.length_set];exact q5,q6,fun jj hjj=> ?_⟩⟩
   rw [List.length_set] at hjj
   obtain ⟨u3,hu3,hk3⟩:=q7 jj hjj
   by_cases e':j=jj
   ·subst e'
    exact ⟨v,by simp [hsz],List.getElem?_set_self hj⟩
   ·exact ⟨u3,by rw [Array.getElem?_setIfInBounds_ne (by omega)];exact hu3,(List.getElem?_set_ne e').trans hk3⟩
  ·rw [List.getElem?_set_ne e] at hvs'
   obtain ⟨r1,r2,r3⟩:=hk2.2 hm' vs' hvs'
   exact ⟨r1,r2,r3.same hsame (by simp) (by simp;exact fun e'=>e e'.symm) fun _ _ h=>h⟩
end
end Go.Proofs.Ytekbhbcgoadciaa
namespace Go.Proofs.Ytekbhbcgoadciaa
open Go.RowKit
def lk {α:Type} (t:Nat):List (Nat×α)→Option α
 | []=>none
 | (t',a) :: r=>bif Nat.beq t t' then some a else lk t r
def St.of (sl:List (Nat×AV)) (ch:List (Nm×Ch)) (ph:List (Nat×AV):= []):St:= { sl:=fun t=>lk t sl,ch:=fun x=>lk x ch,ph:=fun t=>lk t ph }
section
variable {P:Program} {nt:Nat} {w0:World} {ω0:kd} {S S1 S':St} {Q:Exit→Act→World→Prop}
structure ns (P:Program) (w0:World) (ω0:kd) (nt:Nat) (ops:Array Oper) (Q:Exit→Act→World→Prop) (S:St) (rest:List Oper):Prop where
 go:∀a w,Sat w0 ω0 nt S a w→wpList P ops Q rest a w
structure eC (P:Program) (w0:World) (ω0:kd) (nt:Nat) (S:St) (c:Code) (Q:Exit→Act→World→Prop):Prop where
 go:∀a w,Sat w0 ω0 nt S a w→c.wp P Q a w
structure Fin (w0:World) (ω0:kd) (nt:Nat) (S:St) (e:Exit) (Q:Exit→Act→World→Prop):Prop where
 go:∀a w,Sat w0 ω0 nt S a w→Q e a w
structure Wk (S S':St):Prop where
 go:∀w0 ω0 nt a w,Sat w0 ω0 nt S a w→Sat w0 ω0 nt S' a w
variable {ops:Array Oper} {rest:List Oper} {o:Oper}
theorem aj (h:Fin w0 ω0 nt S .normal Q):ns P w0 ω0 nt ops Q S []:=⟨fun a w hs=>h.go a w hs⟩
theorem aa (hg:o.guard=none) (h:bQ P nt o S S1) (k:ns P w0 ω0 nt ops Q S1 rest):ns P w0 ω0 nt ops Q S (o :: rest):=by
 refine ⟨fun a w hs=> ?_⟩
 refine wpList_plain hg fun K hK=> ?_
 exact Oper.wp_mono (fun a' w' h'=>hK a' w' (k.go a' w' h')) (h.go w0 ω0 a w Q hs)
theorem qV {j d:Nat} {want b:Bool} (hg:o.guard=some (j,want)) (hj:(ops[j]?).bind (·.dst)=some d) (hb:S.sl d=some (vv (.bool b))) (h1:b=want→∃S1,bQ P nt o S S1∧ns P w0 ω0 nt ops Q S1 rest)
  (h2:b≠want→∃t,o.dst=some t∧Nat.blt t nt=true∧ns P w0 ω0 nt ops Q (S.put t (vv undef)) rest):ns P w0 ω0 nt ops Q S (o :: rest):=by
 refine ⟨fun a w hs=> ?_⟩
 have hy:yielded ops a.tmps j=some b:=by
  obtain ⟨η,ω,hs⟩:=hs
  obtain ⟨u,k1,k2⟩:=hs.slots d _ hb
  have k2:u= .bool b:=k2
  subst k2
  unfold yielded
  cases hoj:ops[j]? with
  | none=>rw [hoj] at hj;cases hj
  | some oj=>
   rw [hoj] at hj
   simp only [Option.bind_some] at hj
   simp [hj,k1]
 refine wpList_step fun K hK=> ?_
 by_cases e:b=want
 ·rw [if_pos (by simp [Region.wanted,hg,hy,e])]
  obtain ⟨S1,h,k⟩:=h1 e
  exact Oper.wp_mono (fun a' w' h'=>hK a' w' (k.go a' w' h')) (h.go w0 ω0 a w Q hs)
 ·rw [if_neg (by simp [Region.wanted,hg,hy,e])]
  obtain ⟨t,ht,hlt,k⟩:=h2 e
  obtain ⟨η,ω,hs⟩:=hs
  exact hK _ _ (k.go _ _ ⟨η,ω,by rw [ht];exact hs.eY (by simpa using hlt) rfl⟩)
theorem ab {id:Nat} {l:List Oper} (h:ns P w0 ω0 nt l.toArray Q S l):eC P w0 ω0 nt S (.region id l.toArray false) Q:=⟨fun a w hs=>wp_region_lit (h.go a w hs)⟩
theorem ah {x y:Code} (h:eC P w0 ω0 nt S x (Exit.then (y.wp P Q) Q)):eC P w0 ω0 nt S (.seq x y) Q:=⟨fun a w hs=>wp_seq (h.go a w hs)⟩
theorem ai {y:Code} (h:eC P w0 ω0 nt S y Q):Fin w0 ω0 nt S .normal (Exit.then (y.wp P Q) Q):=⟨fun a w hs=>h.go a w hs⟩
theorem aI (h:Fin w0 ω0 nt S .normal Q):eC P w0 ω0 nt S .skip Q:=⟨fun a w hs=>wp_skip (h.go a w hs)⟩
theorem a5 {id:Nat} (h:Fin w0 ω0 nt S (.exit id) Q):eC P w0 ω0 nt S (.exit id) Q:=⟨fun a w hs=>wp_exit (h.go a w hs)⟩
theorem aW (h:Fin w0 ω0 nt S .ret Q):eC P w0 ω0 nt S .ret Q:=⟨fun a w hs=>wp_ret (h.go a w hs)⟩
theorem aB {id:Nat} {c:Code} (h:eC P w0 ω0 nt S c (Exit.inBlock id Q)):eC P w0 ω0 nt S (.block id c) Q:=⟨fun a w hs=>wp_block (h.go a w hs)⟩
theorem aK {id:Nat} (h:Fin w0 ω0 nt S .normal Q):Fin w0 ω0 nt S .normal (Exit.inBlock id Q):=⟨fun a w hs=>h.go a w hs⟩
theorem aM {id:Nat} (h:Fin w0 ω0 nt S .normal Q):Fin w0 ω0 nt S (.exit id) (Exit.inBlock id Q):=⟨fun a w hs=>by simp only [Exit.inBlock,if_true];exact h.go a w hs⟩
theorem bZ {id id':Nat} (hn:Nat.beq id' id=false) (h:Fin w0 ω0 nt S (.exit id') Q):Fin w0 ω0 nt S (.exit id') (Exit.inBlock id Q):=by
 refine ⟨fun a w hs=> ?_⟩
 have hne:id'≠id:=fun e=>by subst e;simp at hn
 simp only [Exit.inBlock,if_neg hne];exact h.go a w hs
theorem ax {id:Nat} {K:Act→World→Prop} (h:Fin w0 ω0 nt S (.exit id) Q):Fin w0 ω0 nt S (.exit id) (Exit.then K Q):=⟨fun a w hs=>h.go a w hs⟩
theorem aT {K:Act→World→Prop} (h:Fin w0 ω0 nt S .ret Q):Fin w0 ω0 nt S .ret (Exit.then K Q):=⟨fun a w hs=>h.go a w hs⟩
theorem bj {id:Nat} (h:Fin w0 ω0 nt S .ret Q):Fin w0 ω0 nt S .ret (Exit.inBlock id Q):=⟨fun a w hs=>h.go a w hs⟩
theorem au {c:Operand} {x y:Code} {b:Bool} (hc:S.op c=some (vv (.bool b))) (ht:b=true→eC P w0 ω0 nt S x Q) (hf:b=false→eC P w0 ω0 nt S y Q):eC P w0 ω0 nt S (.cond c x y) Q:=
 ⟨fun a w hs=>wp_cond_split (t:=b) (by obtain ⟨η,ω,hs⟩:=hs;exact hs.fL hc) (fun e=>(ht e).go a w hs) (fun e=>(hf e).go a w hs)⟩
theorem bF {c:Operand} {x y:Code} {p:Prop} [Decidable p] (hc:S.op c=some (vv (.bool (decide p)))) (ht:p→eC P w0 ω0 nt S x Q) (hf:¬p→eC P w0 ω0 nt S y Q):eC P w0 ω0 nt S (.cond c x y) Q:=
 au hc (fun e=>ht (of_decide_eq_true e)) (fun e=>hf (of_decide_eq_false e))
theorem vA {c:Code} (h:Wk S S') (k:eC P w0 ω0 nt S' c Q):eC P w0 ω0 nt S c Q:=⟨fun a w hs=>k.go a w (h.go _ _ _ a w hs)⟩
theorem Wk.refl (S:St):Wk S S:=⟨fun _ _ _ _ _ h=>h⟩
theorem Wk.trans {S2:St} (h:Wk S S1) (k:Wk S1 S2):Wk S S2:=⟨fun _ _ _ _ _ x=>k.go _ _ _ _ _ (h.go _ _ _ _ _ x)⟩
theorem least {p:Nat→Prop} (h:∃n,p n):∃n,p n∧∀m,p m→n≤m:=by
 obtain ⟨n,hn⟩:=h
 induction n using Nat.strongRecOn with
 | _ n ih=>
  by_cases h':∃m,m < n∧p m
  ·obtain ⟨m,hm,hp⟩:=h'
   exact ih m hm hp
  ·exact ⟨n,hn,fun m hm=>Nat.le_of_not_lt fun hlt=>h' ⟨m,hlt,hm⟩⟩
theorem aL (h:Wk S1 S'):Fin w0 ω0 nt S1 .normal (fun e a w=>e= .normal∧Sat w0 ω0 nt S' a w):=⟨fun a w hs=>⟨rfl,h.go _ _ _ a w hs⟩⟩
def tW {ι:Type} (w0:World) (ω0:kd) (nt:Nat) (I:ι→St) (p:ι→Prop) (μ:ι→Nat) (i:ι) (a:Act) (w:World):Prop:=∃j,p j∧μ j < μ i∧Sat w0 ω0 nt (I j) a w
open Classical in
theorem bl {ι:Type} (I:ι→St) (p:ι→Prop) (μ:ι→Nat) (i0:ι) {c:Code} (hp:p i0) (h0:Wk S (I i0)) (hr:∀i,p i→eC P w0 ω0 nt (I i) c (Exit.then (tW w0 ω0 nt I p μ i) Q)):eC P w0 ω0 nt S (.loop c) Q:=by
 refine ⟨fun a w hs=> ?_⟩
 have ex:∀a w,(∃i,p i∧Sat w0 ω0 nt (I i) a w)→∃n i,(p i∧Sat w0 ω0 nt (I i) a w)∧μ i=n:=fun a w ⟨i,hi⟩=>⟨μ i,i,hi,rfl⟩
 refine wp_loop (fun a w=>∃i,p i∧Sat w0 ω0 nt (I i) a w) (fun a w=>if h:∃i,p i∧Sat w0 ω0 nt (I i) a w then Classical.choose (least (ex a w h)) else 0) ⟨i0,hp,h0.go _ _ _ a w hs⟩ fun a w hI=> ?_
 obtain ⟨⟨i,hi,hm⟩,_⟩:=Classical.choose_spec (least (ex a w hI))
 refine Code.wp_mono (fun e a' w' hq=> ?_) ((hr i hi.1).go a w hi.2)
 cases e with
 | normal=>
  obtain ⟨j,hpj,hj,hsj⟩:=hq
  refine ⟨⟨j,hpj,hsj⟩, ?_⟩
  simp only [dif_pos hI,dif_pos (⟨j,hpj,hsj⟩:∃i,p i∧Sat w0 ω0 nt (I i) a' w')]
  refine Nat.lt_of_le_of_lt ((Classical.choose_spec (least (ex a' w' ⟨j,hpj,hsj⟩))).2 _ ⟨j,⟨hpj,hsj⟩,rfl⟩) ?_
  rw [←hm];exact hj
 | _=>exact hq
theorem aX {ι:Type} {I:ι→St} {p:ι→Prop} {μ:ι→Nat} {i:ι} (j:ι) (hp:p j) (hm:μ j < μ i) (h:Wk S (I j)):Fin w0 ω0 nt S .normal (Exit.then (tW w0 ω0 nt I p μ i) Q):=
 ⟨fun a w hs=>⟨j,hp,hm,h.go _ _ _ a w hs⟩⟩
def ym (S:St):List (Nat×AV)→Prop
 | []=>True
 | (t,av) :: r=>S.sl t=some av∧ym S r
def mX (S:St):List (Nm×Ch)→Prop
 | []=>True
 | (x,c) :: r=>S.ch x=some c∧mX S r
theorem tI:∀ {l:List (Nat×AV)} {t:Nat} {av:AV},ym S l→lk t l=some av→S.sl t=some av
 | [],_,_,_,h=>by cases h
 | (t',av') :: r,t,av,h,hl=>by
  unfold lk at hl
  cases hb:Nat.beq t t' with
  | true=>rw [hb] at hl;simp at hl;subst hl;rw [beq_true hb];exact h.1
  | false=>rw [hb] at hl;exact tI h.2 hl
def m7 (S:St):List (Nat×AV)→Prop
 | []=>True
 | (t,av) :: r=>S.ph t=some av∧m7 S r
theorem oo:∀ {l:List (Nat×AV)} {t:Nat} {av:AV},m7 S l→lk t l=some av→S.ph t=some av
 | [],_,_,_,h=>by cases h
 | (t',av') :: r,t,av,h,hl=>by
  unfold lk at hl
  cases hb:Nat.beq t t' with
  | true=>rw [hb] at hl;simp at hl;subst hl;rw [beq_true hb];exact h.1
  | false=>rw [hb] at hl;exact oo h.2 hl
theorem pJ:∀ {l:List (Nm×Ch)} {t:Nat} {av:Ch},mX S l→lk t l=some av→S.ch t=some av
 | [],_,_,_,h=>by cases h
 | (t',av') :: r,t,av,h,hl=>by
  unfold lk at hl
  cases hb:Nat.beq t t' with
  | true=>rw [hb] at hl;simp at hl;subst hl;rw [beq_true hb];exact h.1
  | false=>rw [hb] at hl;exact pJ h.2 hl
open Classical in
theorem Wk.less (hs:∀t av,S'.sl t=some av→S.sl t=some av) (hc:∀x c,S'.ch x=some c→S.ch x=some c) (hp:∀t av,S'.ph t=some av→S.ph t=some av):Wk S S':=by
 refine ⟨fun w0 ω0 nt a w ⟨η,ω,h⟩=> ?_⟩
 have key:∀x,(if S'.ch x=none then none else η.h x)=none∨((if S'.ch x=none then none else η.h x)=η.h x∧∀i,η.r x i=η.r x i):=fun x=>by
  by_cases e:S'.ch x=none
  ·exact .inl (if_pos e)
  ·exact .inr ⟨if_neg e,fun _=>rfl⟩
 refine ⟨{ η with h:=fun x=>if S'.ch x=none then none else η.h x },ω,⟨h.dfr,h.tsz,fun t av ht=> ?_,fun t av ht=> ?_,⟨fun x c hx=> ?_,fun x hx=>if_pos hx⟩,h.fr⟩⟩
 ·obtain ⟨u,h1,h2⟩:=h.slots t av (hs t av ht)
  exact ⟨u,h1,h2.mono fun y _=>key y⟩
 ·obtain ⟨u,h1,h2⟩:=h.phs t av (hp t av ht)
  exact ⟨u,h1,h2.mono fun y _=>key y⟩
 ·obtain ⟨hd,h1,h2⟩:=h.mem.1 x c (hc x c hx)
  refine ⟨hd,by simp [hx,h1],dC.same (η:=η) (p:=fun _=>True) (Same.refl _ _ _) trivial (fun _=>trivial) (fun _=>rfl) (fun l _ a _ z _=>key z) h2⟩
theorem Wk.of {sl ph:List (Nat×AV)} {ch:List (Nm×Ch)} (hs:ym S sl) (hc:mX S ch) (hp:m7 S ph):Wk S (St.of sl ch ph):=Wk.less (fun _ _ h=>tI hs h) (fun _ _ h=>pJ hc h) (fun _ _ h=>oo hp h)
end
end Go.Proofs.Ytekbhbcgoadciaa
namespace Go.Proofs.Ytekbhbcgoadciaa
open Go.RowKit
def l7 (η:Env) (avs:List AV) (us:List Value):Prop:=us.length=avs.length∧∀(j:Nat) (av:AV),avs[j]? =some av→∃u,us[j]? =some u∧Den η av u
def Left (w:World) (ω:bE) (us:List Value) (outs:List (Nm×Ch)) (res:AV) (back:List (Nat×AV)) (e:Ending) (w':World):Prop:=
 ∃v η' ω',e= .returned v∧Den η' res v∧Mem η' ω' w' (fun x=>lk x outs)∧Fr ω w ω' w'∧∀t av,lk t back=some av→∃u,us[t]? =some u∧Den η' av u
def FC (P:Program) (f:FuncId) (ins:List (Nm×Ch)) (args:List AV) (outs:List (Nm×Ch)) (res:AV) (back:List (Nat×AV)):Prop:=
 ∀w η ω us,Mem η ω w (fun x=>lk x ins)→l7 η args us→Calls P f us.toArray w (Left w ω us outs res back)
def yy:Nat→List AV→List (Nat×AV)
 | _, []=> []
 | k,av :: r=>(k,av) :: yy (k + 1) r
theorem rU:∀ {k:Nat} {l:List AV} {t:Nat} {av:AV},lk t (yy k l)=some av→∃j,t=k + j∧l[j]? =some av
 | _, [],_,_,h=>by cases h
 | k,a :: r,t,av,h=>by
  simp only [yy,lk] at h
  cases hb:Nat.beq t k with
  | true=>rw [hb] at h;simp at h;subst h;exact ⟨0,beq_true hb,rfl⟩
  | false=>
   rw [hb] at h
   obtain ⟨j,h1,h2⟩:=rU (k:=k + 1) (l:=r) h
   exact ⟨j + 1,by omega,by simpa using h2⟩
section
variable {P:Program} {nt:Nat} {S S':St} {w0 w:World} {ω0:kd} {ω:bE} {η:Env} {a:Act}
theorem bc {f:FuncId} {fn:Func} {c:Code} {ins outs:List (Nm×Ch)} {args:List AV} {res:AV} {back:List (Nat×AV)} (hf:P.funcs[f]? =some fn) (hb:fn.body=some c) (hn:fn.ntmps=nt) (hl:args.length≤nt)
  (h:∀w0 ω0,eC P w0 ω0 nt (St.of (yy 0 args) ins (yy 0 args)) c (bodyPost P fn (Left w0 ω0.own ω0.ph outs res back))):FC P f ins args outs res back:=by
 intro w η ω us hm hd
 refine calls_of_wp hf hb ((h w ⟨ω,us⟩).go _ _ ⟨η,ω, ?_⟩)
 have hsz:us.toArray.size=us.length:=by simp
 refine { dfr:=rfl,tsz:= ?_,slots:=fun t av ht=> ?_,phs:=fun t av ht=> ?_,mem:=hm,fr:=Fr.refl _ _ }
 ·have:=hd.1
  simp;omega
 ·obtain ⟨j,rfl,hj⟩:=rU ht
  obtain ⟨u,h1,h2⟩:=hd.2 j av hj
  refine ⟨u, ?_,h2⟩
  have hlt:j < us.length:=(List.getElem?_eq_some_iff.1 h1).1
  simp only [Nat.zero_add]
  rw [Array.getElem?_append_left (by simpa using hlt)]
  simpa using h1
 ·obtain ⟨j,rfl,hj⟩:=rU ht
  obtain ⟨u,h1,h2⟩:=hd.2 j av hj
  exact ⟨u,by simpa using h1,h2⟩
def rA (P:Program) (T:TypeId) (k:Nat):Bool:=
 match P.underlying T with
 | some (.struct _) | some (.array _ _)=>gV P T k
 | _=>false
theorem yP {T:TypeId} {k:Nat} (h:rA P T k=true) (w:World):(isAgg T).run P w= .ok true w:=by
 unfold rA at h
 cases hu:P.underlying T with
 | none=>rw [hu] at h;cases h
 | some d=>rw [hu] at h;cases d<;>first | (cases h;done) | simp [isAgg,run_underlying hu]
theorem xG {T:TypeId} {k:Nat} (h:rA P T k=true):gV P T k=true:=by
 unfold rA at h
 cases hu:P.underlying T with
 | none=>rw [hu] at h;cases h
 | some d=>rw [hu] at h;cases d<;>first | (cases h;done) | exact h
theorem m0 {T:TypeId} {k:Nat} (h:rA P T k=true) {b o:Nat} {us:List Value} (hl:us.length=k) (hc:∀j u,us[j]? =some u→w.cell? ⟨b,o + j,none⟩=some u):(loadVar T ⟨b,o,none⟩).run P w= .ok (.agg us.toArray) w:=by
 have hr:=run_loadCells_list (P:=P) w ⟨b,o,none⟩ us fun j u hu=>by rw [Addr.add_lit];exact hc j u hu
 rw [hl] at hr
 simp [loadVar,yP h,mr (xG h),hr]
theorem dj.vM (hs:dj w0 ω0 nt S η ω a w) {n:Nm} {i k:Nat} {c:Ch} {l:List A1} {T:TypeId} {p:Value} (hp:cq η (.ptr n i) p) (hc:S.ch n=some c) (hd:c.d= .flat l) (hk:i + k≤l.length) (hk0:0 < k) (hT:rA P T k=true):
  ∃ad u,p= .pointer (some ad)∧(loadVar T ad).run P w= .ok u w∧fi η (.agg ((l.drop i).take k)) u:=by
 obtain ⟨h,e1,e2,e3⟩:=hs.chunk hc
 obtain ⟨b,o,g1,rfl⟩:=hp.2 h e1
 rw [hd] at e3
 have key:∀j,j < k→∃u,w.cell? ⟨b,o + i + j,none⟩=some u∧∀b1,l[i + j]? =some b1→cq η b1 u:=fun j hj=>by
  obtain ⟨b',o',u,f1,f2,f3⟩:=e3.get (j:=i + j) (by show i + j < l.length;omega)
  rw [g1] at f1;injection f1 with f1;injection f1 with f1 f1';subst f1 f1'
  exact ⟨u,by rw [Nat.add_assoc];exact f2,f3⟩
 refine ⟨_, .agg ((List.range k).map fun j=>(w.cell? ⟨b,o + i + j,none⟩).getD undef).toArray,rfl,m0 hT (by simp) fun j u hu=> ?_,⟨_,rfl,by simp;omega,fun j b1 hb1=> ?_⟩⟩
 ·rw [List.getElem?_map,Option.map_eq_some_iff] at hu
  obtain ⟨j',hj',rfl⟩:=hu
  have hjk:j < k:=by have:=(List.getElem?_eq_some_iff.1 hj').1;simpa using this
  rw [List.getElem?_range hjk] at hj'
  obtain rfl:=Option.some.inj hj'
  obtain ⟨u,hu,_⟩:=key j hjk
  rw [hu];rfl
 ·have hjk:j < k:=by have:=(List.getElem?_eq_some_iff.1 hb1).1;simp at this;omega
  rw [List.getElem?_take,if_pos hjk,List.getElem?_drop] at hb1
  obtain ⟨u,hu,hdu⟩:=key j hjk
  exact ⟨u,by simp [hjk,hu],hdu b1 hb1⟩
def gY (tmps:Array Value):ResultVar→Sem Value
 | .tmp t=>pure (tmps.getD t undef)
 | .cell b t=>do loadVar t (←asAddr (tmps.getD b undef))
inductive pY (P:Program) (S:St):ResultVar→A2→Prop where
 | tmp {t:Nat} {b:A2} (h:S.sl t=some (.s b)):pY P S (.tmp t) b
 | cell {t:Nat} {T:TypeId} {n:Nm} {k:Nat} {c:Ch} {l:List A1} (h:S.sl t=some (o1 (.ptr n 0))) (hc:S.ch n=some c) (hd:c.d= .flat l) (hk:l.length=k) (hk0:Nat.blt 0 k=true) (hT:rA P T k=true):pY P S (.cell t T) (.agg l)
 | one {t:Nat} {T:TypeId} {n:Nm} {c:Ch} {b:A1} (h:S.sl t=some (o1 (.ptr n 0))) (hc:S.ch n=some c) (hb:c.d.at_ n 0=some b) (hT:mC P T=true):pY P S (.cell t T) (.one b)
theorem dj.res (hs:dj w0 ω0 nt S η ω a w) {r:ResultVar} {b:A2} (h:pY P S r b):∃u,(gY a.tmps r).run P w= .ok u w∧fi η b u:=by
 cases h with
 | tmp h=>
  obtain ⟨u,h1,h2⟩:=hs.slots _ _ h
  exact ⟨u,by simp [gY,h1],h2⟩
 | cell h hc hd hk hk0 hT=>
  obtain ⟨p,h1,h2⟩:=hs.slots _ _ h
  obtain ⟨ad,u,rfl,h4,h5⟩:=hs.vM (P:=P) h2 hc hd (by omega) (by simpa using hk0) hT
  refine ⟨u,by simp [gY,h1,asAddr,h4], ?_⟩
  rw [List.drop_zero,List.take_of_length_le (by omega)] at h5;exact h5
 | one h hc hb hT=>
  obtain ⟨p,h1,h2⟩:=hs.slots _ _ h
  obtain ⟨hd,e1,e2,e3⟩:=hs.chunk hc
  obtain ⟨bb,o,g1,rfl⟩:=(show cq η (.ptr _ 0) p from h2).2 hd e1
  obtain ⟨b',o',u,f1,f2,f3⟩:=e3.get (dQ.y7 hb)
  rw [g1] at f1;injection f1 with f1;injection f1 with f1 f1';subst f1 f1'
  simp only [Nat.add_zero] at f2 h1
  exact ⟨u,by simp [gY,h1,asAddr,loadVar,so hT,f2],vm f3 hb⟩
theorem jH (fn:Func) (tmps:Array Value):results fn tmps=(do let vs ←fn.results.mapM (gY tmps);pure (if h:vs.size=1 then vs[0] else .tuple vs)):=by
 unfold results
 congr 1
theorem rX {fn:Func} {tmps:Array Value} (h:fn.results= #[]):(results fn tmps).run P w= .ok (.tuple #[]) w:=by
 rw [jH,h];simp
theorem rp {fn:Func} {tmps:Array Value} {r:ResultVar} {v:Value} (h:fn.results= #[r]) (h1:(gY tmps r).run P w= .ok v w):(results fn tmps).run P w= .ok v w:=by
 rw [jH,h];simp [h1]
theorem rf {fn:Func} {tmps:Array Value} {r r':ResultVar} {v v':Value} (h:fn.results= #[r,r']) (h1:(gY tmps r).run P w= .ok v w) (h2:(gY tmps r').run P w= .ok v' w):(results fn tmps).run P w= .ok (.tuple #[v,v']) w:=by
 rw [jH,h];simp [h1,h2]
theorem dj.left (hs:dj w0 ω0 nt S η ω a w) {outs:List (Nm×Ch)} {res:AV} {back:List (Nat×AV)} {v:Value} (hc:mX S outs) (hb:m7 S back) (hv:Den η res v):Left w0 ω0.own ω0.ph outs res back (.returned v) w:=by
 classical
 have key:∀x,(if lk x outs=none then none else η.h x)=none∨((if lk x outs=none then none else η.h x)=η.h x∧∀i,η.r x i=η.r x i):=fun x=>by
  by_cases e:lk x outs=none
  ·exact .inl (if_pos e)
  ·exact .inr ⟨if_neg e,fun _=>rfl⟩
 refine ⟨v, { η with h:=fun x=>if lk x outs=none then none else η.h x },ω,rfl,hv.mono fun y _=>key y,⟨fun x c hx=> ?_,fun x hx=>if_pos hx⟩,hs.fr,fun t av ht=> ?_⟩
 ·obtain ⟨hd,h1,h2⟩:=hs.mem.1 x c (pJ hc hx)
  refine ⟨hd,by simp [hx,h1],dC.same (η:=η) (p:=fun _=>True) (Same.refl _ _ _) trivial (fun _=>trivial) (fun _=>rfl) (fun l _ a _ z _=>key z) h2⟩
 ·obtain ⟨u,h1,h2⟩:=hs.phs t av (oo hb ht)
  exact ⟨u,h1,h2.mono fun y _=>key y⟩
theorem gu {fn:Func} {e:Exit} {outs:List (Nm×Ch)} {back:List (Nat×AV)} (he:e= .ret∨e= .normal) (hf:fn.results= #[]) (hc:mX S outs) (hb:m7 S back):
  Fin w0 ω0 nt S e (bodyPost P fn (Left w0 ω0.own ω0.ph outs (.tup []) back)):=by
 refine ⟨fun a w ⟨η,ω,hs⟩=> ?_⟩
 have:a.defers= []∧∃v,(results fn a.tmps).run P w= .ok v w∧Left w0 ω0.own ω0.ph outs (.tup []) back (.returned v) w:=⟨hs.dfr,_,rX hf,hs.left hc hb ⟨#[],rfl,rfl,fun j b hj=>by simp at hj⟩⟩
 rcases he with rfl | rfl<;>exact this
theorem bd {fn:Func} {e:Exit} {r:ResultVar} {b:A2} {outs:List (Nm×Ch)} {back:List (Nat×AV)} (he:e= .ret∨e= .normal) (hf:fn.results= #[r]) (hr:pY P S r b) (hc:mX S outs) (hb:m7 S back):
  Fin w0 ω0 nt S e (bodyPost P fn (Left w0 ω0.own ω0.ph outs (.s b) back)):=by
 refine ⟨fun a w ⟨η,ω,hs⟩=> ?_⟩
 obtain ⟨u,h1,h2⟩:=hs.res hr
 have:a.defers= []∧∃v,(results fn a.tmps).run P w= .ok v w∧Left w0 ω0.own ω0.ph outs (.s b) back (.returned v) w:=⟨hs.dfr,u,rp hf h1,hs.left hc hb h2⟩
 rcases he with rfl | rfl<;>exact this
theorem cH {fn:Func} {e:Exit} {r r':ResultVar} {b b':A2} {outs:List (Nm×Ch)} {back:List (Nat×AV)} (he:e= .ret∨e= .normal) (hf:fn.results= #[r,r']) (hr:pY P S r b) (hr':pY P S r' b') (hc:mX S outs) (hb:m7 S back):
  Fin w0 ω0 nt S e (bodyPost P fn (Left w0 ω0.own ω0.ph outs (.tup [b,b']) back)):=by
 refine ⟨fun a w ⟨η,ω,hs⟩=> ?_⟩
 obtain ⟨u,h1,h2⟩:=hs.res hr
 obtain ⟨u',h1',h2'⟩:=hs.res hr'
 have hd:Den η (.tup [b,b']) (.tuple #[u,u']):=⟨_,rfl,rfl,fun j c hj=>by
  match j,hj with
  | 0,hj=>simp at hj;subst hj;exact ⟨u,by simp,h2⟩
  | 1,hj=>simp at hj;subst hj;exact ⟨u',by simp,h2'⟩⟩
 have:a.defers= []∧∃v,(results fn a.tmps).run P w= .ok v w∧Left w0 ω0.own ω0.ph outs (.tup [b,b']) back (.returned v) w:=⟨hs.dfr,_,rf hf h1 h1',hs.left hc hb hd⟩
 rcases he with rfl | rfl<;>exact this
end
end Go.Proofs.Ytekbhbcgoadciaa
