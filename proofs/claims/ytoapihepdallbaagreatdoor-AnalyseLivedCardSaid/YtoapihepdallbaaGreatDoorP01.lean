import Derived.WalkKit
import Derived.WalkSpells
import Derived.WalkLawsBesides
import Derived.Deep.LoopGhost
import Derived.BigQuiet
import Derived.Deep.QuietTactic
import Derived.Maps.AppendAt
import Derived.Lib.Overlaps
import Derived.Lib.AppendZeros
import Derived.Laws.Externs
import Derived.Laws.IdiomCopy
import Derived.Deep.RegionLaw
import Derived.Deep.AppendSrc
import Derived.Laws.CopyRow
import Derived.Lib.AppendZerosOnto
import Derived.Deep.AppendLies
import Derived.Test.YtoapihepdallbaaGreatDoorProg
namespace Go.Proofs.YtoapihepdallbaaGreatDoor
open Go.RowKit
section
structure Sc(p:Prop):Prop where mk::(o:p)
theorem Q0{p:Prop}(h:p):Sc p:=⟨h⟩
def flat{α:Type}(enc:α->List Value)(l:List α):List Value:=l.flatMap enc
structure Kind{α:Type}(enc:α->List Value)(sz:Nat):Prop where
 len:∀x,(enc x).length=sz
 one:∀x u,u∈enc x->u.oneCell'=true
 pos:0<sz
section
variable{α:Type}{enc:α->List Value}{sz:Nat}
theorem Z1(x:α)(l:List α):flat enc (x::l)=enc x++flat enc l:=by simp[flat]
theorem Qc(a b:List α):flat enc (a++b)=flat enc a++flat enc b:=by simp[flat]
theorem Qm(x:α):flat enc [x]=enc x:=by simp[flat]
theorem Kind.Qp(K:Kind enc sz)(l:List α):(flat enc l).length=l.length*sz:=by
 induction l with
 |nil=>simp[flat]
 |cons x l ih=>rw[Z1,List.length_append,K.len,ih,List.length_cons,Nat.add_mul,Nat.one_mul,Nat.add_comm]
theorem Kind.Xk(K:Kind enc sz)(l:List α):∀u∈flat enc l,u.oneCell'=true:=by
 intro u hu
 simp only[flat,List.mem_flatMap]at hu
 obtain⟨x,_,hx⟩:=hu
 exact K.one x u hx
theorem Kind.Ub(K:Kind enc sz)(l:List α)(k:Nat):(flat enc l).take (k*sz)=flat enc (l.take k):=by
 induction l generalizing k with
 |nil=>simp[flat]
 |cons x l ih=>
  cases k with
  |zero=>simp[flat]
  |succ k=>
   rw[List.take_succ_cons,Z1,Z1,<-ih k,Nat.add_mul,Nat.one_mul,Nat.add_comm,<-K.len x,List.take_length_add_append]
theorem Kind.Gc(K:Kind enc sz)(l:List α)(k:Nat):(flat enc l).drop (k*sz)=flat enc (l.drop k):=by
 induction l generalizing k with
 |nil=>simp[flat]
 |cons x l ih=>
  cases k with
  |zero=>simp[flat]
  |succ k=>
   rw[List.drop_succ_cons,Z1,<-ih k,Nat.add_mul,Nat.one_mul,Nat.add_comm,<-K.len x,List.drop_length_add_append]
theorem Kind.Y4r(K:Kind enc sz)(l:List α)(k:Nat)(x:α)(hx:l[k]? =some x)(j:Nat)(hj:j<sz):(flat enc l)[k*sz+j]? =(enc x)[j]? :=by
 have h:=K.Gc l k
 have hd:l.drop k=x::l.drop (k+1):=by
  rw[List.drop_eq_getElem?_toList_append,hx];rfl
 rw[hd,Z1]at h
 have:=congrArg (fun q=>q[j]?) h
 simp only[List.getElem?_drop]at this
 rw[this,List.getElem?_append_left (by rw[K.len];exact hj)]
end
abbrev Qj(x:Int×Int):List Value:=[.int .i64 x.1,.int .i64 x.2]
theorem Xh:Kind Qj 2:=⟨fun _=>rfl,fun x u hu=>by simp[Qj]at hu;rcases hu with rfl|rfl<;>rfl,by omega⟩
abbrev Qg(x:Int×Int×Int×Int):List Value:=[.int .i64 x.1,.int .i64 x.2.1,.int .i64 x.2.2.1,.int .i64 x.2.2.2]
theorem X8:Kind Qg 4:=⟨fun _=>rfl,fun x u hu=>by simp[Qg]at hu;rcases hu with rfl|rfl|rfl|rfl<;>rfl,by omega⟩
def Own{α:Type}(enc:α->List Value)(sz:Nat)(e:TypeId)(base:Nat)(w:World)(v:Value)(l:List α):Prop:=
 w.ownsRow base e sz v l.length (flat enc l)
section
variable{α:Type}{enc:α->List Value}{sz:Nat}{e:TypeId}{base:Nat}{w w':World}{v:Value}{l:List α}
theorem Own.form(h:Own enc sz e base w v l)(hl:0<l.length):∃g cap,v=.slice (some ⟨g,0,none⟩) l.length cap/\base<=g/\g<w.heap.size/\l.length<=cap/\cap<=maxLen:=by
 rcases h.2 with ⟨_,h0⟩|⟨g,cap,cur,rfl,hb,hg,hn,hc,hs,ht⟩
 ·omega
 ·exact⟨g,cap,rfl,hb,(Array.getElem?_eq_some_iff.1 hg).1,hn,hc⟩
theorem Own.slice(h:Own enc sz e base w v l):∃A cap,v=.slice A l.length cap/\l.length<=cap/\cap<=maxLen:=by
 rcases h.2 with ⟨rfl,h0⟩|⟨g,cap,cur,rfl,hb,hg,hn,hc,hs,ht⟩
 ·exact⟨none,0,by rw[h0],by omega,by unfold maxLen;omega⟩
 ·exact⟨_,cap,rfl,hn,hc⟩
theorem Own.slice3(h:Own enc sz e base w v l):∃A n cap,v=.slice A n cap:=by
 obtain⟨A,cap,h1,_,_⟩:=h.slice
 exact⟨A,_,cap,h1⟩
theorem Own.cell{g n cap:Nat}(K:Kind enc sz)(h:Own enc sz e base w (.slice (some ⟨g,0,none⟩) n cap) l){k:Nat}{x:α}(hx:l[k]? =some x)(j:Nat)(u:Value)(hu:(enc x)[j]? =some u):w.cell? ⟨g,k*sz+j,none⟩=some u:=by
 have hj:j<sz:=by rw[<-K.len x];exact(List.getElem?_eq_some_iff.1 hu).1
 have:=h.cells (g:=g) rfl (k*sz+j) u (by rw[K.Y4r l k x hx j hj];exact hu)
 have ha:(⟨g,0,none⟩:Addr).add (k*sz+j)=⟨g,k*sz+j,none⟩:=by unfold Addr.add;split<;>simp_all
 rwa [ha]at this
theorem Own.Xb{w:World}{g n cap:Nat}{l:List (Int×Int)}(h:Own Qj 2 e base w (.slice (some ⟨g,0,none⟩) n cap) l){k:Nat}{x:Int×Int}(hx:l[k]? =some x):
  w.cell? ⟨g,k*2,none⟩=some (.int .i64 x.1)/\w.cell? ⟨g,k*2+1,none⟩=some (.int .i64 x.2):=
 ⟨h.cell Xh hx 0 _ rfl,h.cell Xh hx 1 _ rfl⟩
theorem Own.V6{w:World}{g n cap:Nat}{l:List (Int×Int×Int×Int)}(h:Own Qg 4 e base w (.slice (some ⟨g,0,none⟩) n cap) l){k:Nat}{x:Int×Int×Int×Int}(hx:l[k]? =some x):
  w.cell? ⟨g,k*4,none⟩=some (.int .i64 x.1)/\w.cell? ⟨g,k*4+1,none⟩=some (.int .i64 x.2.1)/\w.cell? ⟨g,k*4+2,none⟩=some (.int .i64 x.2.2.1)/\w.cell? ⟨g,k*4+3,none⟩=some (.int .i64 x.2.2.2):=
 ⟨h.cell X8 hx 0 _ rfl,h.cell X8 hx 1 _ rfl,h.cell X8 hx 2 _ rfl,h.cell X8 hx 3 _ rfl⟩
theorem Own.Qr{g n cap:Nat}(h:Own enc sz e base w (.slice (some ⟨g,0,none⟩) n cap) l)(j:Nat):w.frozen? ⟨g,j,none⟩=false:=by
 rcases h.2 with ⟨h',_⟩|⟨g',cap',cur,h',_,hh,_⟩
 ·cases h'
 ·have:g=g':=by injection h' with h';injection h' with h';injection h' with h'
  subst this
  simp[World.frozen?,hh]
theorem Own.lt(h:Own enc sz e base w v l):∀k,v.ownBlock=some k->base<=k/\k<w.heap.size:=World.ownsRow.lt h
theorem Own.kept{row:Option Nat}(h:Own enc sz e base w v l)(hg:w.grownBy w' row)(hne:v.ownBlock=none\/v.ownBlock≠row):Own enc sz e base w' v l:=World.ownsRow.kept h hg hne
theorem Own.grown(h:Own enc sz e base w v l)(hg:w.grownBy w' none):Own enc sz e base w' v l:=World.ownsRow.kept h hg (by cases v.ownBlock<;>simp)
theorem Own.below(h:Own enc sz e base w v l)(hg:Below w.heap.size w w'):Own enc sz e base w' v l:=h.grown ⟨hg.os,hg.tape,hg.output,hg.size,fun k hk _=>hg.block k hk⟩
theorem Own.alloc(h:Own enc sz e base w v l)(o:Obj):Own enc sz e base (w.alloc o) v l:=h.below ((Below.refl _ _).alloc (Nat.le_refl _) o)
theorem Own.drew(h:Own enc sz e base w v l):Own enc sz e base w.drew v l:=h
theorem Own.mono{b:Nat}(h:Own enc sz e base w v l)(hb:b<=base):Own enc sz e b w v l:=by
 refine⟨h.1,?_⟩
 rcases h.2 with h'|⟨g,cap,cur,h1,h2,r⟩
 ·exact .inl h'
 ·exact .inr ⟨g,cap,cur,h1,by omega,r⟩
theorem Own.raise{b:Nat}(h:Own enc sz e base w v l)(hb:∀k,v.ownBlock=some k->b<=k):Own enc sz e b w v l:=by
 refine⟨h.1,?_⟩
 rcases h.2 with h'|⟨g,cap,cur,h1,h2,r⟩
 ·exact .inl h'
 ·exact .inr ⟨g,cap,cur,h1,hb g (by rw[h1];rfl),r⟩
theorem Own.nil:Own enc sz e base w (.slice none 0 0) ([]:List α):=World.ownsRow_nil _ _ _ _
end
theorem Gq{w w':World}(hg:w.grownBy w' none):Below w.heap.size w w':=⟨hg.os,hg.tape,hg.output,hg.size,fun k hk=>hg.block k hk (by simp)⟩
theorem Kind.X1s{α:Type}{enc:α->List Value}{sz:Nat}(K:Kind enc sz):∀(l:List α) (k j:Nat) (x x':α) (u:Value),l[k]? =some x->j<sz->enc x'=(enc x).set j u->(flat enc l).set (k*sz+j) u=flat enc (l.set k x')
 |[],k,j,x,x',u,hx,_,_=>by simp at hx
 |a::l,0,j,x,x',u,hx,hj,he=>by
  simp at hx
  subst hx
  rw[List.set_cons_zero,Z1,Z1,he,Nat.zero_mul,Nat.zero_add,List.set_append_left _ _ (by rw[K.len];exact hj)]
 |a::l,k+1,j,x,x',u,hx,hj,he=>by
  rw[List.set_cons_succ,Z1,Z1,<-K.X1s l k j x x' u (by simpa using hx) hj he,List.set_append_right _ _ (by rw[K.len,Nat.add_mul];omega)]
  congr 2
  rw[K.len,Nat.add_mul]
  omega
theorem Own.set{α:Type}{enc:α->List Value}{sz:Nat}{e:TypeId}{base:Nat}{w:World}{g n cap:Nat}{l:List α}(K:Kind enc sz)(h:Own enc sz e base w (.slice (some ⟨g,0,none⟩) n cap) l){k j:Nat}{x x':α}{u:Value}(hx:l[k]? =some x)(hj:j<sz)(he:enc x'=(enc x).set j u):
  Own enc sz e base (w.setCell ⟨g,k*sz+j,none⟩ u) (.slice (some ⟨g,0,none⟩) n cap) (l.set k x'):=by
 obtain rfl:n=l.length:=by
  rcases h.2 with ⟨h',_⟩|⟨g',cap',cur,h',_⟩
  ·cases h'
  ·injection h'
 have hs:=World.ownsRow.stored (g:=g) (cap:=cap) (show w.ownsRow base e sz (.slice (some ⟨g,0,none⟩) l.length cap) l.length (flat enc l) from h) (k*sz+j) u
 unfold Own
 rw[List.length_set,<-K.X1s l k j x x' u hx hj he]
 exact hs.1
def Uf(k:IntKind)(w:World)(a:Option Addr)(len cap:Nat)(zs:List Int):Prop:=
 (a=none/\len=0/\cap=0/\zs=[])\/
 ∃x,a=some x/\len<=cap/\cap<=maxLen/\zs.length=cap/\(∀i,i<zs.length->w.cell? (x.add i)=some (.int k (zs.getD i 0)))/\∀n∈zs,(Lit.int k n).wf=true
theorem Uf.at{k:IntKind}{w:World}{a:Option Addr}{len cap:Nat}{zs:List Int}(h:Uf k w a len cap zs)(hl:0<len):
  ∃b off,a=some ⟨b,off,none⟩/\b<w.heap.size/\∀i,i<len->w.cell? ⟨b,off+i,none⟩=some (.int k (zs.getD i 0)):=by
 rcases h with ⟨_,h0,_⟩|⟨x,rfl,hlc,_,hz,hc,_⟩
 ·omega
 ·have h0:=hc 0 (by omega)
  obtain⟨b,off,s⟩:=x
  have hs:s=none:=by
   cases s with
   |none=>rfl
   |some s=>
    simp only[World.cell?,Addr.add]at h0
    split at h0
    ·simp at h0
    ·cases h0
  subst hs
  have hadd:∀i,(⟨b,off,none⟩:Addr).add i=⟨b,off+i,none⟩:=fun i=>by unfold Addr.add;split<;>simp_all
  exact⟨b,off,rfl,World.block_lt_of_cell? w _ h0,fun i hi=>by rw[<-hadd i];exact hc i (by omega)⟩
structure Kp(S:Nat->Prop)(w w':World):Prop where
 os:w'.os=w.os
 tape:w'.tape=w.tape
 output:w'.output=w.output
 size:w.heap.size<=w'.heap.size
 block:∀k,k<w.heap.size->¬S k->w'.heap[k]? =w.heap[k]?
section
variable{S S':Nat->Prop}{w w' w'':World}
theorem Kp.refl(S:Nat->Prop)(w:World):Kp S w w:=⟨rfl,rfl,rfl,Nat.le_refl _,fun _ _ _=>rfl⟩
theorem Kp.trans(h:Kp S w w')(k:Kp S' w' w'')(hs:∀q,S' q->S q\/w.heap.size<=q):Kp S w w'':=
 ⟨k.os.trans h.os,k.tape.trans h.tape,k.output.trans h.output,Nat.le_trans h.size k.size,fun q hq hn=>
  (k.block q (Nat.lt_of_lt_of_le hq h.size) (fun h2=>(hs q h2).elim hn (fun h3=>by omega))).trans (h.block q hq hn)⟩
theorem Kp.mono(h:Kp S w w')(hs:∀q,S q->S' q):Kp S' w w':=⟨h.os,h.tape,h.output,h.size,fun q hq hn=>h.block q hq (fun h2=>hn (hs q h2))⟩
theorem Kp.Qi(h:Below w.heap.size w w')(S:Nat->Prop):Kp S w w':=⟨h.os,h.tape,h.output,h.size,fun q hq _=>h.block q hq⟩
theorem Kp.Zl{row:Option Nat}(h:w.grownBy w' row):Kp (fun q=>some q=row) w w':=⟨h.os,h.tape,h.output,h.size,fun q hq hn=>h.block q hq hn⟩
theorem Kp.below(h:Kp S w w'){B:Nat}(hB:B<=w.heap.size)(hs:∀q,S q->B<=q):Below B w w':=⟨h.os,h.tape,h.output,h.size,fun q hq=>h.block q (by omega) (fun h2=>by have:=hs q h2;omega)⟩
theorem Kp.setCell(w:World)(a:Addr)(v:Value):Kp (fun q=>q=a.block) w (w.setCell a v):=⟨rfl,rfl,rfl,by simp[World.setCell],fun q _ hn=>Below.heap_setCell w a v q hn⟩
theorem Kp.alloc(w:World)(o:Obj)(S:Nat->Prop):Kp S w (w.alloc o):=.Qi ((Below.refl _ _).alloc (Nat.le_refl _) o) S
theorem Kp.drew(h:Kp S w w'):Kp S w w'.drew:=⟨h.os,h.tape,h.output,h.size,h.block⟩
theorem Kp.at(h:Kp S w w'){q:Nat}{o:Obj}(hq:w.heap[q]? =some o)(hn:¬S q):w'.heap[q]? =some o:=
 (h.block q (Array.getElem?_eq_some_iff.1 hq).1 hn).trans hq
end
theorem Q5{w w1 wr:World}(h1:Below w.heap.size w w1)(h2:Below w1.heap.size w1 wr):Below w.heap.size w wr:=h1.trans (h2.mono h1.size)
theorem Q2{w:World}{b:Nat}{c:Array Value}{t:TypeId}(h:w.heap[b]? =some (.cells c t (0,0)))(o:Nat):w.frozen? ⟨b,o,none⟩=false:=by simp[World.frozen?,h]
theorem Qn{w:World}{b:Nat}{c:Array Value}{t:TypeId}(h:w.heap[b]? =some (.cells c t (0,0)))(o:Nat)(u:Value):(w.setCell ⟨b,o,none⟩ u).heap[b]? =some (.cells (c.setIfInBounds o u) t (0,0)):=by
 simp[World.setCell,Array.getElem?_modify,h]
theorem Q6{w:World}{b:Nat}{o:Obj}(h:w.heap[b]? =some o):b<w.heap.size:=(Array.getElem?_eq_some_iff.1 h).1
theorem Own.kp{α:Type}{enc:α->List Value}{sz:Nat}{e:TypeId}{base:Nat}{w w':World}{v:Value}{l:List α}{S:Nat->Prop}(h:Own enc sz e base w v l)(k:Kp S w w')(hn:∀q,v.ownBlock=some q->¬S q):Own enc sz e base w' v l:=by
 refine⟨h.1,?_⟩
 rcases h.2 with h'|⟨g,cap,cur,h1,h2,h3,r⟩
 ·exact .inl h'
 ·exact .inr ⟨g,cap,cur,h1,h2,k.at h3 (hn g (by rw[h1];rfl)),r⟩
end
section
def lay(cur:List Value)(o:Nat)(cs:List Value):List Value:=cur.take o++cs++cur.drop (o+cs.length)
theorem Y8{cur:List Value}{o:Nat}{cs:List Value}(h:o+cs.length<=cur.length):(lay cur o cs).length=cur.length:=by
 unfold lay;simp;omega
theorem Gi(cur:List Value)(o:Nat)(cs:List Value)(h:o+cs.length<=cur.length)(j:Nat):
  (lay cur o cs)[j]? =if j<o then cur[j]? else if j<o+cs.length then cs[j - o]? else cur[j]? :=by
 unfold lay
 have ho:(cur.take o).length=o:=by simp;omega
 by_cases h1:j<o
 ·rw[if_pos h1,List.append_assoc,List.getElem?_append_left (by omega),List.getElem?_take,if_pos h1]
 ·rw[if_neg h1]
  by_cases h2:j<o+cs.length
  ·rw[if_pos h2,List.append_assoc,List.getElem?_append_right (by omega),ho,List.getElem?_append_left (by omega)]
  ·rw[if_neg h2,List.getElem?_append_right (by simp;omega),List.getElem?_drop]
   congr 1
   simp;omega
section
variable{P:Program}
theorem Zm(w:World)(tD tS ty e e':TypeId)(i:TypeInfo)(ht:P.underlying tD=some (.slice e))(hi:P.info? e=some i)(g o:Nat)(cur:Array Value)(hg:w.heap[g]? =some (.cells cur e' (0,0)))
  (dl dc:Nat) (a:Addr) (sl sc:Nat) (cs:List Value) (hn:cs.length=Nat.min sl dl*i.size) (hcs:∀j u,cs[j]? =some u->w.cell? (a.add j)=some u) (h1:∀u∈cs,u.oneCell'=true) (hfit:o+cs.length<=cur.size):
  (Builtin.copy_ #[tD,tS] ty #[.slice (some ⟨g,o,none⟩) dl dc,.slice (some a) sl sc]).run P w=.ok (goInt (Nat.min sl dl)) (w.setRow g (lay cur.toList o cs).toArray):=by
 have hf:=run_firstCells_some (P:=P) w i.size (Nat.min sl dl) a sl sc cs hn hcs
 have hs:=run_storeCells_at P g o e' cs 0 cur w hg (by simpa using hfit) h1
 simp only[Nat.add_zero]at hs
 simp[Builtin.copy_,run_underlying ht,sizeOf,typeInfo,hi,Builtin.lenOf,hf,hs,lay]
theorem Q6n(w:World)(t ty e e':TypeId)(i:TypeInfo)(z:Value)(ht:P.underlying t=some (.slice e))(hi:P.info? e=some i)(hz:i.zero=some z)(g o:Nat)(cur:Array Value)(hg:w.heap[g]? =some (.cells cur e' (0,0)))
  (n c:Nat) (hn:0<n) (h1:∀u∈(Builtin.zeroCells z.cells n).toList,u.oneCell'=true) (hfit:o+(Builtin.zeroCells z.cells n).toList.length<=cur.size):
  (Builtin.clear_ #[t] ty #[.slice (some ⟨g,o,none⟩) n c]).run P w=.ok (.tuple #[]) (w.setRow g (lay cur.toList o (Builtin.zeroCells z.cells n).toList).toArray):=by
 have hs:=run_storeCells_at P g o e' _ 0 cur w hg (by simpa using hfit) h1
 simp only[Nat.add_zero]at hs
 obtain⟨m,rfl⟩:∃m,n=m+1:=⟨n - 1,by omega⟩
 simp[Builtin.clear_,run_underlying ht,zeroValue,typeInfo,hi,hz,hs,lay]
theorem Gu(w:World)(t tn ty e:TypeId)(i:TypeInfo)(z:Value)(kq kn:IntKind)(ht:P.underlying t=some (.slice e))(htn:P.underlying tn=some (.int kn))(hi:P.info? e=some i)(hz:i.zero=some z)(hzs:z.cells.size=i.size)
  (g k cap m:Nat) (cur:Array Value) (hg:w.heap[g]? =some (.cells cur e (0,0))) (hk:k*i.size<=cur.size) (h0:0<m) (hs:0<i.size) (hcap:cap<k+m) (hbig:(k+m)*i.bytes<=140737488355328) (h63:k+m<=1000000000):
  ∃C cur1,(Builtin.append_ #[t,tn] ty #[.slice (some ⟨g,0,none⟩) k cap,.int kq m]).run P w=.ok (.slice (some ⟨w.heap.size,0,none⟩) (k+m) C) (w.drew.alloc (.cells cur1 e))/\
   cur1.size=C*i.size/\cur1.toList.take (k*i.size)=cur.toList.take (k*i.size)/\k+m<=C/\C<=maxLen:=by
 have hold:(Builtin.firstCells i.size k (.slice (some ⟨g,0,none⟩) k cap)).run P w.drew=.ok (cur.toList.take (k*i.size)).toArray w.drew:=by
  refine run_firstCells_some w.drew i.size k ⟨g,0,none⟩ k cap _ (by simp;omega) (fun j v hj=> ?_)
  have ha:(⟨g,0,none⟩:Addr).add j=⟨g,j,none⟩:=by unfold Addr.add;split<;>simp_all
  rw[ha]
  rw[List.getElem?_take]at hj
  split at hj
  ·simp only[World.cell?,World.drew,hg]
   simpa using hj
  ·cases hj
 have hmb:m*i.bytes<=(k+m)*i.bytes:=Nat.mul_le_mul_right _ (by omega)
 have hge:=grownCap_ge w (k+m) cap e
 refine⟨_,_,Lib.run_append_grow_zeros w t tn ty e i z kq kn ht htn hi hz _ k cap _ hold m h0 hs hcap (by omega) (by omega) (growslice_fits hcap hbig),?_,?_,hge,grownCap_le_maxLen w (k+m) cap e (by unfold maxLen;omega)⟩
 ·have hl:(cur.toList.take (k*i.size)).length=k*i.size:=by simp;omega
  simp only[Array.size_append,List.size_toArray,hl,size_zeroCells,hzs]
  rw[<-Nat.add_mul,<-Nat.add_mul]
  congr 1
  omega
 ·simp only[Array.toList_append,List.append_assoc]
  rw[List.take_append_of_le_length (by simp;omega),List.take_take]
  congr 1
  omega
theorem Q5w(w:World){o:Oper}{a:Act}{K:Act->World->Prop}{Q:Exit->Act->World->Prop}(d s:Operand)(t t':TypeId)
  (ho:o.op=.call {callee:=.builtin .copy,args:= #[d,s],argTypes:= #[t,t']}) (v u:Value) (hd:a.eval d=v) (hs:a.eval s=u) {v':Value} {w':World}
  (hr:(Builtin.copy_ #[t,t'] o.type #[v,u]).run P w=.ok v' w') (h:K (a.put o.dst v') w'):o.wp P a w K Q:=by
 unfold Oper.wp execOp
 simp only[ho,resolve,invoke,builtin,Sem.run_bind,Sem.run_pure,Result.andThen_ok,List.map_toArray,List.map_cons,List.map_nil,hd,hs,hr]
 exact h
theorem G3(w:World){ops:Array Oper}{rest:List Oper}{o:Oper}{a:Act}{Q:Exit->Act->World->Prop}(hgd:o.guard=none)(d s:Operand)(t t':TypeId)
  (ho:o.op=.call {callee:=.builtin .copy,args:= #[d,s],argTypes:= #[t,t']}) (v u:Value) (hd:a.eval d=v) (hs:a.eval s=u) {v':Value} {w':World}
  (hr:(Builtin.copy_ #[t,t'] o.type #[v,u]).run P w=.ok v' w') (h:wpList P ops Q rest (a.put o.dst v') w'):wpList P ops Q (o::rest) a w:=
 wpList_plain hgd fun _ hK=>Q5w w d s t t' ho v u hd hs hr (hK _ _ h)
theorem Ua{ops:Array Oper}{o:Oper}{a:Act}{w:World}{K:Act->World->Prop}{Q:Exit->Act->World->Prop}{E:Prop}
  (hg:o.guard=none) (d x:Operand) (dT sT:TypeId) (hop:o.op=Op.call {callee:=Callee.builtin Builtin.copy,args:= #[d,x],argTypes:= #[dT,sT]})
  (v u:Value) (hd:a.eval d=v) (hx:a.eval x=u) {v':Value} {w':World} (hr:(Builtin.copy_ #[dT,sT] o.type #[v,u]).run P w=.ok v' w') (hK:K (a.put o.dst v') w'):
  if Region.wanted o (yielded ops a.tmps)=true then Oper.wp P o a w K Q else E:=by
 have hw:Region.wanted o (yielded ops a.tmps)=true:=by simp[Region.wanted,hg]
 rw[if_pos hw]
 exact Q5w w d x dT sT hop v u hd hx hr hK
theorem X4a(w:World){o:Oper}{a:Act}{K:Act->World->Prop}{Q:Exit->Act->World->Prop}(d:Operand)(t:TypeId)
  (ho:o.op=.call {callee:=.builtin .clear,args:= #[d],argTypes:= #[t]}) (v:Value) (hd:a.eval d=v) {v':Value} {w':World}
  (hr:(Builtin.clear_ #[t] o.type #[v]).run P w=.ok v' w') (h:K (a.put o.dst v') w'):o.wp P a w K Q:=by
 unfold Oper.wp execOp
 simp only[ho,resolve,invoke,builtin,Sem.run_bind,Sem.run_pure,Result.andThen_ok,List.map_toArray,List.map_cons,List.map_nil,hd,hr]
 exact h
theorem Q3a(w:World){ops:Array Oper}{rest:List Oper}{o:Oper}{a:Act}{Q:Exit->Act->World->Prop}(hgd:o.guard=none)(d:Operand)(t:TypeId)
  (ho:o.op=.call {callee:=.builtin .clear,args:= #[d],argTypes:= #[t]}) (v:Value) (hd:a.eval d=v) {v':Value} {w':World}
  (hr:(Builtin.clear_ #[t] o.type #[v]).run P w=.ok v' w') (h:wpList P ops Q rest (a.put o.dst v') w'):wpList P ops Q (o::rest) a w:=
 wpList_plain hgd fun _ hK=>X4a w d t ho v hd hr (hK _ _ h)
theorem Q5o{ops:Array Oper}{o:Oper}{a:Act}{w:World}{K:Act->World->Prop}{Q:Exit->Act->World->Prop}{E:Prop}
  (hg:o.guard=none) (d x:Operand) (dT sT:TypeId) (hop:o.op=Op.call {callee:=Callee.builtin Builtin.append,args:= #[d,x],argTypes:= #[dT,sT]})
  (v u:Value) (hd:a.eval d=v) (hx:a.eval x=u) {v':Value} {w':World} (hr:(Builtin.append_ #[dT,sT] o.type #[v,u]).run P w=.ok v' w') (hK:K (a.put o.dst v') w'):
  if Region.wanted o (yielded ops a.tmps)=true then Oper.wp P o a w K Q else E:=by
 have hw:Region.wanted o (yielded ops a.tmps)=true:=by simp[Region.wanted,hg]
 rw[if_pos hw]
 exact Lib.wp_append_run w d x dT sT hop v u hd hx v' w' hr hK
end
section
variable{α:Type}{enc:α->List Value}{sz:Nat}{e:TypeId}{base:Nat}{w w':World}
theorem Own.Jc{g n cap:Nat}{cur:Array Value}{l:List α}(hg:w.heap[g]? =some (.cells cur e (0,0)))(hb:base<=g)(K:Kind enc sz)(hl:l.length=n)(hn:n<=cap)(hc:cap<=maxLen)(hs:cur.size=cap*sz)(ht:cur.toList.take (n*sz)=flat enc l):
  Own enc sz e base w (.slice (some ⟨g,0,none⟩) n cap) l:=by
 subst hl
 exact⟨K.Qp l,.inr ⟨g,cap,cur,rfl,hb,hg,hn,hc,hs,ht⟩⟩
theorem Own.block{g n cap:Nat}{l:List α}(h:Own enc sz e base w (.slice (some ⟨g,0,none⟩) n cap) l):
  ∃cur,w.heap[g]? =some (.cells cur e (0,0))/\base<=g/\l.length=n/\n<=cap/\cap<=maxLen/\cur.size=cap*sz/\cur.toList.take (n*sz)=flat enc l:=by
 rcases h.2 with ⟨h',_⟩|⟨g',cap',cur,h',hb,hh,hn,hc,hs,ht⟩
 ·cases h'
 ·injection h' with h1 h2 h3
  injection h1 with h1
  injection h1 with h1
  subst h1 h3
  subst h2
  exact⟨cur,hh,hb,rfl,hn,hc,hs,ht⟩
theorem Vy(A:Option Addr)(n c:Nat):(Value.slice A n c).ownBlock=A.map (·.block):=by cases A<;>rfl
theorem J1(w:World)(g:Nat)(cs:Array Value):w.grownBy (w.setRow g cs) (some g):=
 ⟨rfl,rfl,rfl,by simp[World.setRow],fun k _ hk=>setRow_other w g k cs (fun h=>hk (by rw[h]))⟩
theorem Q7l{z:Array Value}(hz:∀u∈z.toList,u.oneCell'=true)(hs:0<z.size)(n:Nat):∀u∈(Builtin.zeroCells z n).toList,u.oneCell'=true:=by
 intro u hu
 simp only[Builtin.zeroCells,Array.toList_map,Array.toList_range,List.mem_map,List.mem_range]at hu
 obtain⟨i,_,rfl⟩:=hu
 have hlt:i % z.size<z.size:=Nat.mod_lt _ hs
 rw[getElem!_pos z _ hlt]
 exact hz _ (by simp)
end
end
theorem Q0a:(Tryz.prog.info? 60).map (fun i=>(i.zero,i.size,i.bytes))=some (some (.agg #[.int .i64 0,.int .i64 0]),2,16):=by kernel_rfl
def Q8s(l:List (Int×Int))(w:World)(e:Ending)(w':World):Prop:=
 ∃v',e=.returned v'/\Own Qj 2 60 w.heap.size w' v' l/\Below w.heap.size w w'
set_option maxHeartbeats 1000000 in
theorem Q3z(w:World)(base:Nat)(v:Value)(l:List (Int×Int))(hown:Own Qj 2 60 base w v l)(hlen:l.length<=1000000):
  Calls Tryz.prog 78 #[v] w (Q8s l w):=by
 obtain⟨i0,hi,hz0,hz1,hz2⟩:=info_parts Q0a
 rcases hown.2 with ⟨rfl,h0⟩|⟨g,cap,cur,rfl,hb,hg,hn,hc,hs,ht⟩
 ·obtain rfl:l=[]:=List.eq_nil_of_length_eq_zero h0
  clear hown
  have he:=fun(W:World)=>Lib.run_eql_slice_nil (P:= Tryz.prog) W 32 60 none 0 0 0 0 Tryz.underlying32
  go_enter Tryz.func78,Tryz.ntmps78
  go_wp2
  go_ret
  exact⟨_,rfl,Own.nil,Below.refl _ _⟩
 ·have hn0:l.length<=maxLen:=by unfold maxLen;omega
  have he:=fun(W:World)=>Lib.run_eql_slice_nil (P:= Tryz.prog) W 32 60 (some ⟨g,0,none⟩) l.length cap 0 0 Tryz.underlying32
  have HE:Sc ((w.alloc (.cells #[] 60)).ownsRow w.heap.size 60 2 (.slice (some ⟨w.heap.size,0,none⟩) 0 0) 0 []):=⟨World.ownsRow_made w #[] 0 (Nat.le_refl _) (by unfold maxLen;omega) rfl⟩
  have HN:Sc (∀j u,(flat Qj l)[j]? =some u->(w.alloc (.cells #[] 60)).cell? ((⟨g,0,none⟩:Addr).add j)=some u):=⟨by
   have h:=(World.ownsRow.alloc hown (.cells #[] 60)).cells (g:=g) rfl
   exact h⟩
  clear hown hg ht hs
  go_enter Tryz.func78,Tryz.ntmps78
  go_wp2_with (at_builtin;go_loud (refine wpList_append_own_at _ rfl (.tmp 5) (.tmp 6) 32 rfl w.heap.size 60 i0 (.agg #[.int .i64 0,.int .i64 0]) 2 16 Tryz.underlying32 hi hz0 hz1 hz2 rfl (by decide) _ 0 [] rfl HE.o ⟨g,0,none⟩ l.length cap (flat Qj l) rfl (Xh.Qp l) HN.o (Xh.Xk l) ?c3 ?c4 ?c5 ?_))
  case c3=>rw[Nat.zero_add];exact hn0
  case c4=>omega
  case c5=>simp
  intro v' w' h1 h2 h3 h4
  have H1:Sc (Own Qj 2 60 w.heap.size w' v' l):=⟨h1⟩
  have H2:Sc (Below w.heap.size w w'):=⟨((Below.refl _ _).alloc (Nat.le_refl _) _).grown h2 (by simp) (fun k hk=>by simp[Value.ownBlock]at hk;omega)⟩
  clear h1 h2 h3 h4
  go_wp2
  go_ret
  exact⟨_,rfl,H1.o,H2.o⟩
section
set_option maxHeartbeats 2000000
theorem En(x y:Int×Int)(w:World):
  Calls Tryz.prog 86 #[.agg #[.int .i64 x.1,.int .i64 x.2],.agg #[.int .i64 y.1,.int .i64 y.2]] w fun e w'=>e=.returned (.bool (decide (x=y)))/\Below w.heap.size w w':=by
 by_cases h:x=y
 ·subst h
  go_enter Tryz.func86,Tryz.ntmps86
  go_wp2
  go_ret
  exact⟨by simp,((Below.refl _ _).alloc (Nat.le_refl _) _).alloc (by simp) _⟩
 ·have HH:=Q0 h
  obtain⟨a,b⟩:=x
  obtain⟨c,d⟩:=y
  clear h
  by_cases h1:a=c
  ·subst h1
   have h2:(b==d)=false:=beq_eq_false_iff_ne.2 (fun h=>HH.o (by rw[h]))
   go_enter Tryz.func86,Tryz.ntmps86
   go_wp2
   go_ret
   exact⟨by rw[decide_eq_false HH.o];rfl,((Below.refl _ _).alloc (Nat.le_refl _) _).alloc (by simp) _⟩
  ·have h2:(a==c)=false:=beq_eq_false_iff_ne.2 h1
   clear h1
   go_enter Tryz.func86,Tryz.ntmps86
   go_wp2
   go_ret
   exact⟨by rw[decide_eq_false HH.o];rfl,((Below.refl _ _).alloc (Nat.le_refl _) _).alloc (by simp) _⟩
theorem Jg(w:World)(base:Nat)(v:Value)(l:List (Int×Int))(hown:Own Qj 2 60 base w v l)(hlen:l.length<=1000000):
  Calls Tryz.prog 127 #[v] w (Q8s l w):=by
 obtain⟨i0,hi,hz0,hz1,hz2⟩:=info_parts Q0a
 obtain⟨A,cap,rfl,hnc,hcm⟩:=hown.slice
 obtain⟨n,hn⟩:∃n,l.length=n:=⟨_,rfl⟩
 rw[hn]at hown hlen hnc ⊢
 have HN:=Q0 hn
 have HO:=Q0 hown
 clear hown hn
 go_enter Tryz.func127,Tryz.ntmps127
 go_wp2_with (at_make;refine wpList_make_own _ rfl _ _ 32 rfl w.heap.size 60 i0 (.agg #[.int .i64 0,.int .i64 0]) 2 Tryz.underlying32 hi hz0 hz1 .i64 .i64 _ n rfl rfl rfl ?b1 ?b2 (Nat.le_refl _) ?_)
 case b1=>rw[hz2];omega
 case b2=>unfold maxLen;omega
 intro w1 hown1 hg1
 have HO1:Sc (Own Qj 2 60 w.heap.size w1 (.slice (some ⟨w.heap.size,0,none⟩) 0 n) ([]:List (Int×Int))):=⟨hown1⟩
 have HB1:Sc (Below w.heap.size w w1):=⟨Gq hg1⟩
 clear hown1 hg1
 go_wp2
 go_loopg [3,4] n (fun kx s3 s4 wr=>∃i:Nat,s4=.int .i64 i/\i<=n/\n - i<=kx/\Sc (Below w.heap.size w wr)/\Sc (Own Qj 2 60 w.heap.size wr s3 (l.take i)))
 case atStart=>exact⟨0,rfl,by omega,by omega,HB1,⟨by rw[List.take_zero];exact HO1.o⟩⟩
 case round=>
  obtain⟨i,rfl,hin,hg,HB,HR⟩:=hrel
  by_cases hlt:i<n
  ·obtain⟨x,hx⟩:∃x,l[i]? =some x:=⟨_,List.getElem?_eq_getElem (by rw[HN.o];exact hlt)⟩
   obtain⟨g,c2,he,_,_,_,_⟩:=HO.o.form (by rw[HN.o];omega)
   injection he with hA hn2 hC
   subst hA
   have HO2:=HO.o.below HB.o
   obtain⟨c0,c1⟩:=HO2.Xb hx
   have hnext:l.take (i+1)=l.take i++[x]:=by rw[List.take_add_one,hx];rfl
   have HX:=Q0 hnext
   have HT:Sc ((l.take i).length=i):=⟨by rw[List.length_take,HN.o];omega⟩
   have hil:(i:Int)<n:=by omega
   clear hx HO2 hnext hn2 hC
   go_wp2_with (at_builtin;go_loud (refine wpList_append_own_at _ rfl (.tmp 14) (.tmp 19) 32 rfl w.heap.size 60 i0 (.agg #[.int .i64 0,.int .i64 0]) 2 16 Tryz.underlying32 hi hz0 hz1 hz2 rfl (by decide) _ (l.take i).length (flat Qj (l.take i)) rfl (HR.o.alloc _) _ 1 1 (Qj x) rfl rfl ?c1 ?c2 ?c3 ?c4 ?c5 ?_))
   case c1=>exact World.news_of_block (heap_alloc_new _ _)
   case c2=>exact Xh.one x
   case c3=>rw[HT.o];unfold maxLen;omega
   case c4=>rw[HT.o];omega
   case c5=>have:=HB.o.size;simp;omega
   intro v1 w2 h1 h2 h3 h4
   have H1:Sc (Own Qj 2 60 w.heap.size w2 v1 (l.take (i+1))):=⟨by
    rw[HX.o]
    unfold Own
    rw[Qc,Qm,List.length_append,List.length_take]
    exact h1⟩
   have H2:Sc (Below w.heap.size w w2):=⟨(HB.o.alloc HB.o.size _).grown h2 (by have:=HB.o.size;simp;omega) (fun k hk=>(HR.o.lt k hk).1)⟩
   clear h1 h2 h3 h4 HR HB c0 c1
   go_wp2
   go_roundg (n - (i+1))
   case measure=>omega
   case rel=>exact⟨i+1,by go_num,by omega,Nat.le_refl _,H2,H1⟩
  ·obtain rfl:i=n:=by omega
   have HE:Sc (l.take i=l):=⟨by rw[<-HN.o,List.take_length]⟩
   go_wp2
   go_ret
   exact⟨_,rfl,by have:=HR.o;rwa [HE.o]at this,HB.o⟩
theorem Q6i(w:World)(base base':Nat)(u v:Value)(l m:List (Int×Int))(hown:Own Qj 2 60 base w u l)(hown':Own Qj 2 60 base' w v m)(hlen:l.length<=1000000)(hlen':m.length<=1000000):
  Calls Tryz.prog 42 #[u,v] w fun e w'=>e=.returned (.bool (decide (l=m)))/\Below w.heap.size w w':=by
 obtain⟨A,cap,rfl,hnc,hcm⟩:=hown.slice
 obtain⟨A',cap',rfl,hnc',hcm'⟩:=hown'.slice
 by_cases hl:l.length=m.length
 ·obtain⟨n,hn⟩:∃n,l.length=n:=⟨_,rfl⟩
  rw[hn]at hl hown hlen hnc ⊢
  rw[<-hl]at hown' hlen' hnc' ⊢
  have HN:=Q0 hn
  have HM:=Q0 hl
  have HO:=Q0 hown
  have HO':=Q0 hown'
  clear hown hown' hn hl
  go_enter Tryz.func42,Tryz.ntmps42
  go_wp2
  go_loopg [5,6] n (fun kx s5 _ wr=>∃i:Nat,s5=.int .i64 i/\i<=n/\n - i<=kx/\Sc (Below w.heap.size w wr)/\Sc (l.take i=m.take i))
  case atStart=>exact⟨0,rfl,by omega,by omega,⟨Below.refl _ _⟩,⟨rfl⟩⟩
  case round=>
   obtain⟨i,rfl,hin,hg,HB,HE⟩:=hrel
   by_cases hlt:i<n
   ·obtain⟨x,hx⟩:∃x,l[i]? =some x:=⟨_,List.getElem?_eq_getElem (by rw[HN.o];exact hlt)⟩
    obtain⟨y,hy⟩:∃y,m[i]? =some y:=⟨_,List.getElem?_eq_getElem (by rw[<-HM.o];exact hlt)⟩
    obtain⟨g,c2,he,_,_,_,_⟩:=HO.o.form (by rw[HN.o];omega)
    injection he with hA hn2 hC
    subst hA
    obtain⟨g',c2',he',_,_,_,_⟩:=HO'.o.form (by rw[<-HM.o];omega)
    injection he' with hA' hn2' hC'
    subst hA'
    obtain⟨c0,c1⟩:=(HO.o.below HB.o).Xb hx
    obtain⟨d0,d1⟩:=(HO'.o.below HB.o).Xb hy
    have HX:=Q0 hx
    have HY:=Q0 hy
    have hil:(i:Int)<n:=by omega
    clear hx hy hn2 hC hn2' hC'
    by_cases hxy:x=y
    ·have HXY:Sc (l.take (i+1)=m.take (i+1)):=⟨by rw[List.take_add_one,List.take_add_one,HX.o,HY.o,HE.o,hxy]⟩
     have hd:decide (x=y)=true:=decide_eq_true hxy
     have HD:=Q0 hd
     clear hxy hd
     go_wp2_with fail
     go_region_with (go_at_call 86;refine(En _ _ _).mono ?_;rintro e w1 ⟨rfl,hb⟩;rw[HD.o])
     all_goals
      have H2:Sc (Below w.heap.size w w1):=⟨HB.o.trans ⟨hb.os,hb.tape,hb.output,hb.size,fun q hq=>hb.block q (Nat.lt_of_lt_of_le hq HB.o.size)⟩⟩
      clear hb
      go_wp2
      go_roundg (n - (i+1))
      case measure=>omega
      case rel=>exact⟨i+1,by go_num,by omega,Nat.le_refl _,H2,HXY⟩
    ·have hd:decide (x=y)=false:=decide_eq_false hxy
     have HD:=Q0 hd
     have HF:Sc (decide (l=m)=false):=⟨decide_eq_false (fun h=>hxy (by have h1:=HX.o;rw[h,HY.o]at h1;injection h1 with h1;exact h1.symm))⟩
     clear hxy hd
     go_wp2_with fail
     go_region_with (go_at_call 86;refine(En _ _ _).mono ?_;rintro e w1 ⟨rfl,hb⟩;rw[HD.o])
     all_goals
      have H2:Sc (Below w.heap.size w w1):=⟨HB.o.trans ⟨hb.os,hb.tape,hb.output,hb.size,fun q hq=>hb.block q (Nat.lt_of_lt_of_le hq HB.o.size)⟩⟩
      clear hb
      go_wp2
      go_ret
      exact⟨by rw[HF.o];rfl,H2.o⟩
   ·obtain rfl:i=n:=by omega
    have HF:Sc (decide (l=m)=true):=⟨decide_eq_true (by
     have h:=HE.o
     rw[List.take_of_length_le (by rw[HN.o];exact Nat.le_refl _),List.take_of_length_le (by rw[<-HM.o];exact Nat.le_refl _)]at h
     exact h)⟩
    go_wp2
    go_ret
    exact⟨by rw[HF.o];rfl,HB.o⟩
 ·have hd:decide (l=m)=false:=decide_eq_false (fun h=>hl (by rw[h]))
  have HD:=Q0 hd
  have hne:((l.length:Int) !=(m.length:Int))=true:=by rw[bne_iff_ne];omega
  clear hown hown' hd hl
  go_enter Tryz.func42,Tryz.ntmps42
  go_wp2
  go_ret
  exact⟨by rw[HD.o];rfl,Below.refl _ _⟩
theorem Q4b(w:World)(base base':Nat)(u v:Value)(l:List (Int×Int))(hown:Own Qj 2 60 base w u l)(hown':Own Qj 2 60 base' w v l)(hlen:l.length<=1000000):
  Calls Tryz.prog 42 #[u,v] w fun e w'=>e=.returned (.bool true)/\Below w.heap.size w w':=
 (Q6i w base base' u v l l hown hown' hlen hlen).mono fun e w' ⟨he,hb⟩=>⟨by rw[he,decide_eq_true rfl],hb⟩
end
section
variable{β:Type}
def Qd(l:List (Int×β)):Prop:=l.Pairwise fun a b=>a.1<b.1
def pos(l:List (Int×β))(k:Int):Nat:=l.countP fun x=>decide (x.1<k)
def has(l:List (Int×β))(k:Int):Bool:=l.any fun x=>decide (x.1=k)
theorem Q4x(l:List (Int×β))(k:Int):pos l k<=l.length:=List.countP_le_length
theorem Qd.tail{x:Int×β}{l:List (Int×β)}(h:Qd (x::l)):Qd l:=(List.pairwise_cons.1 h).2
theorem Qd.head{x:Int×β}{l:List (Int×β)}(h:Qd (x::l)):∀y∈l,x.1<y.1:=(List.pairwise_cons.1 h).1
theorem Qd.lt{l:List (Int×β)}(h:Qd l){i j:Nat}{x y:Int×β}(hij:i<j)(hx:l[i]? =some x)(hy:l[j]? =some y):x.1<y.1:=by
 obtain⟨hi,rfl⟩:=List.getElem?_eq_some_iff.1 hx
 obtain⟨hj,rfl⟩:=List.getElem?_eq_some_iff.1 hy
 exact List.pairwise_iff_getElem.1 h i j hi hj hij
theorem Qd.le{l:List (Int×β)}(h:Qd l){i j:Nat}{x y:Int×β}(hij:i<=j)(hx:l[i]? =some x)(hy:l[j]? =some y):x.1<=y.1:=by
 rcases Nat.lt_or_eq_of_le hij with hlt|rfl
 ·exact Int.le_of_lt (h.lt hlt hx hy)
 ·rw[hx]at hy;injection hy with hy;subst hy;exact Int.le_refl _
theorem Oz(k:Int):∀(l:List (Int×β)) (i:Nat),i<=l.length->(∀t x,t<i->l[t]? =some x->x.1<k)->(∀t x,i<=t->l[t]? =some x->k<=x.1)->pos l k=i
 |[],i,hi,_,_=>by simp at hi;subst hi;rfl
 |a::r,0,_,_,h2=>by
  unfold pos
  rw[List.countP_eq_zero]
  intro x hx
  obtain⟨t,ht,rfl⟩:=List.getElem_of_mem hx
  have:=h2 t _ (Nat.zero_le _) (List.getElem?_eq_getElem ht)
  simpa using this
 |a::r,i+1,hi,h1,h2=>by
  have ha:a.1<k:=h1 0 a (Nat.succ_pos _) rfl
  unfold pos
  rw[List.countP_cons_of_pos (by simpa using ha)]
  have:=Oz k r i (by simpa using hi) (fun t x ht hx=>h1 (t+1) x (by omega) (by simpa using hx)) (fun t x ht hx=>h2 (t+1) x (by omega) (by simpa using hx))
  unfold pos at this
  rw[this]
theorem J0{l:List (Int×β)}(h:Qd l)(k:Int){t:Nat}{x:Int×β}(hx:l[t]? =some x):t<pos l k↔x.1<k:=by
 induction l generalizing t with
 |nil=>simp at hx
 |cons a r ih=>
  unfold pos
  by_cases ha:a.1<k
  ·rw[List.countP_cons_of_pos (by simpa using ha)]
   cases t with
   |zero=>simp at hx;subst hx;simp[ha]
   |succ t=>
    have:=ih h.tail (t:=t) (by simpa using hx)
    unfold pos at this
    rw[<-this];omega
  ·rw[List.countP_cons_of_neg (by simpa using ha)]
   have h0:r.countP (fun x=>decide (x.1<k))=0:=by
    rw[List.countP_eq_zero]
    intro y hy
    have:=h.head y hy
    simp;omega
   rw[h0]
   cases t with
   |zero=>simp at hx;subst hx;omega
   |succ t=>
    have hm:x∈r:=List.mem_of_getElem? (by simpa using hx)
    have:=h.head x hm
    omega
theorem Zq{l:List (Int×β)}(h:Qd l)(k:Int):has l k=true↔∃x,l[pos l k]? =some x/\x.1=k:=by
 unfold has
 rw[List.any_eq_true]
 constructor
 ·rintro⟨x,hx,hk⟩
  have hk:x.1=k:=by simpa using hk
  obtain⟨t,ht,hxt⟩:=List.getElem_of_mem hx
  have hx':l[t]? =some x:=by rw[List.getElem?_eq_getElem ht,hxt]
  have h1:¬t<pos l k:=by rw[J0 h k hx'];omega
  have h2:¬pos l k<t:=by
   intro hlt
   obtain⟨y,hy⟩:∃y,l[pos l k]? =some y:=⟨_,List.getElem?_eq_getElem (by omega)⟩
   have:=h.lt hlt hy hx'
   have:=(J0 h k hy).2 (by omega)
   omega
  have:t=pos l k:=by omega
  exact⟨x,this▸hx',hk⟩
 ·rintro⟨x,hx,hk⟩
  exact⟨x,List.mem_of_getElem? hx,by simpa using hk⟩
theorem X1w{l:List (Int×β)}(h:Qd l)(k:Int)(hp:pos l k=l.length):has l k=false:=by
 cases hh:has l k with
 |false=>rfl
 |true=>
  obtain⟨x,hx,_⟩:=(Zq h k).1 hh
  rw[hp,List.getElem?_eq_none (Nat.le_refl _)]at hx
  cases hx
theorem X1x{l:List (Int×β)}(h:Qd l)(k:Int){x:Int×β}(hx:l[pos l k]? =some x):has l k=decide (x.1=k):=by
 rw[Bool.eq_iff_iff,Zq h k]
 simp[hx]
def put(l:List (Int×β))(x:Int×β):List (Int×β):=l.take (pos l x.1)++x::l.drop (pos l x.1)
def add(l:List (Int×β))(x:Int×β):List (Int×β):=if has l x.1=true then l else put l x
def cut(l:List (Int×β))(k:Int):List (Int×β):=l.take (pos l k)++l.drop (pos l k+1)
def X4(l:List (Int×β))(k:Int):List (Int×β):=if has l k=true then cut l k else l
theorem Qd.split{a b:List (Int×β)}:Qd (a++b)↔Qd a/\Qd b/\∀x∈a,∀y∈b,x.1<y.1:=List.pairwise_append
theorem X4l{l:List (Int×β)}(h:Qd l)(k:Int):∀x∈l.take (pos l k),x.1<k:=by
 intro x hx
 obtain⟨t,ht⟩:=List.mem_iff_getElem?.1 hx
 rw[List.getElem?_take]at ht
 split at ht
 ·rename_i hlt;exact(J0 h k ht).1 hlt
 ·cases ht
theorem Q3w{l:List (Int×β)}(h:Qd l)(k:Int):∀x∈l.drop (pos l k),k<=x.1:=by
 intro x hx
 obtain⟨t,ht⟩:=List.mem_iff_getElem?.1 hx
 rw[List.getElem?_drop]at ht
 have:=(J0 h k ht)
 omega
theorem Qd.take_drop{l:List (Int×β)}(h:Qd l)(n m:Nat)(hnm:n<=m):Qd (l.take n++l.drop m):=by
 refine List.Pairwise.sublist ?_ h
 have:l.take n++l.drop m=l.take n++(l.drop n).drop (m - n):=by rw[List.drop_drop];congr 2;omega
 rw[this]
 conv=>rhs;rw[<-List.take_append_drop n l]
 exact List.Sublist.append_left (List.drop_sublist _ _) _
theorem Q4y{l:List (Int×β)}(h:Qd l){x:Int×β}(hn:has l x.1=false):Qd (put l x):=by
 unfold put
 rw[Qd.split]
 have hd:Qd (l.drop (pos l x.1)):=List.Pairwise.sublist (List.drop_sublist _ _) h
 refine⟨List.Pairwise.sublist (List.take_sublist _ _) h,List.pairwise_cons.2 ⟨fun y hy=> ?_,hd⟩,?_⟩
 ·have h1:=Q3w h x.1 y hy
  have h2:¬y.1=x.1:=fun he=>by
   have:has l x.1=true:=by unfold has;rw[List.any_eq_true];exact⟨y,List.mem_of_mem_drop hy,by simpa using he⟩
   rw[hn]at this;cases this
  omega
 ·intro a ha b hb
  have h1:=X4l h x.1 a ha
  rcases List.mem_cons.1 hb with rfl|hb
  ·exact h1
  ·have:=Q3w h x.1 b hb;omega
theorem C3{l:List (Int×β)}(h:Qd l)(x:Int×β):Qd (add l x):=by
 unfold add
 split
 ·exact h
 ·rename_i hn;exact Q4y h (by simpa using hn)
theorem X4o{l:List (Int×β)}(h:Qd l)(k:Int):Qd (cut l k):=h.take_drop _ _ (by omega)
theorem drop'_rising{l:List (Int×β)}(h:Qd l)(k:Int):Qd (X4 l k):=by
 unfold X4
 split
 ·exact X4o h k
 ·exact h
theorem Cb(l:List (Int×β))(x:Int×β):(put l x).length=l.length+1:=by
 have:=Q4x l x.1
 unfold put;simp;omega
theorem C0(l:List (Int×β))(x:Int×β):(add l x).length<=l.length+1:=by
 unfold add;split
 ·omega
 ·rw[Cb];omega
theorem Ow{l:List (Int×β)}(h:Qd l){k:Int}(hk:has l k=true):pos l k<l.length:=by
 obtain⟨x,hx,_⟩:=(Zq h k).1 hk
 exact(List.getElem?_eq_some_iff.1 hx).1
theorem drop'_length(l:List (Int×β))(k:Int):(X4 l k).length<=l.length:=by
 unfold X4;split
 ·unfold cut;simp;omega
 ·omega
theorem Q0h{l:List (Int×β)}{x y:Int×β}:y∈put l x↔y=x\/y∈l:=by
 unfold put
 rw[List.mem_append,List.mem_cons]
 have:y∈l↔y∈l.take (pos l x.1)\/y∈l.drop (pos l x.1):=by rw[<-List.mem_append,List.take_append_drop]
 rw[this]
 constructor
 ·rintro(h|h|h)
  ·exact .inr (.inl h)
  ·exact .inl h
  ·exact .inr (.inr h)
 ·rintro(h|h|h)
  ·exact .inr (.inl h)
  ·exact .inl h
  ·exact .inr (.inr h)
theorem Y5i{l:List (Int×β)}(h:Qd l){k:Int}(hk:has l k=true){y:Int×β}:y∈cut l k↔y∈l/\y.1≠k:=by
 obtain⟨x,hx,hxk⟩:=(Zq h k).1 hk
 have hlt:=Ow h hk
 have hs:l=l.take (pos l k)++x::l.drop (pos l k+1):=by
  conv=>lhs;rw[<-List.take_append_drop (pos l k) l]
  congr 1
  rw[List.drop_eq_getElem?_toList_append,hx];rfl
 have hr:=h
 rw[hs,Qd.split]at hr
 obtain⟨_,h2,h3⟩:=hr
 unfold cut
 constructor
 ·intro hy
  refine⟨by rw[hs,List.mem_append,List.mem_cons];rcases List.mem_append.1 hy with h'|h';exact .inl h';exact .inr (.inr h'),?_⟩
  rcases List.mem_append.1 hy with h'|h'
  ·have:=h3 y h' x List.mem_cons_self;omega
  ·have:=(List.pairwise_cons.1 h2).1 y h';omega
 ·rintro⟨hy,hne⟩
  rw[hs,List.mem_append,List.mem_cons]at hy
  rw[List.mem_append]
  rcases hy with h'|h'|h'
  ·exact .inl h'
  ·subst h';exact absurd hxk hne
  ·exact .inr h'
end
section
set_option maxHeartbeats 400000
def O1(a b:Int):Int:=if a<b then -1 else if b<a then 1 else 0
theorem Q1f(a:Int)(w:World):
  Calls Tryz.prog 176 #[.int .i64 a] w fun e w'=>e=.returned (.bool false)/\w=w':=by
 go_enter Tryz.func176,Tryz.ntmps176
 go_wp2
 go_ret
 exact⟨by simp,rfl⟩
theorem Q1y(a b:Int)(w:World):
  Calls Tryz.prog 167 #[.int .i64 a,.int .i64 b] w fun e w'=>e=.returned (.int .i64 (O1 a b))/\w=w':=by
 rcases Int.lt_trichotomy a b with h|h|h
 ·have hc:O1 a b= -1:=by unfold O1;rw[if_pos h]
  go_enter Tryz.func167,Tryz.ntmps167
  go_wp2_with (go_at_call 176;refine(Q1f _ _).mono ?_;rintro e w' ⟨rfl,rfl⟩)
  go_ret
  exact⟨by rw[hc];rfl,rfl⟩
 ·subst h
  have hc:O1 a a=0:=by unfold O1;rw[if_neg (by omega),if_neg (by omega)]
  go_enter Tryz.func167,Tryz.ntmps167
  go_wp2_with (go_at_call 176;refine(Q1f _ _).mono ?_;rintro e w' ⟨rfl,rfl⟩)
  go_ret
  exact⟨by rw[hc];rfl,rfl⟩
 ·have hc:O1 a b=1:=by unfold O1;rw[if_neg (by omega),if_pos h]
  have h':¬a<b:=by omega
  go_enter Tryz.func167,Tryz.ntmps167
  go_wp2_with (go_at_call 176;refine(Q1f _ _).mono ?_;rintro e w' ⟨rfl,rfl⟩)
  go_ret
  exact⟨by rw[hc];rfl,rfl⟩
theorem Q3c{a b:Int}:O1 a b<0↔a<b:=by unfold O1;split<;>(try split)<;>omega
theorem Q3b{a b:Int}:O1 a b=0↔a=b:=by unfold O1;split<;>(try split)<;>omega
end
section
set_option maxHeartbeats 1000000
theorem U1(p f k:Int)(w:World):
  Calls Tryz.prog 171 #[.agg #[.int .i64 p,.int .i64 f],.int .i64 k] w fun e w'=>e=.returned (.int .i64 (O1 p k))/\Below w.heap.size w w':=by
 go_enter Tryz.func171,Tryz.ntmps171
 go_wp2_with (go_at_call 167;refine(Q1y _ _ _).mono ?_;rintro e w' ⟨rfl,rfl⟩)
 go_ret
 exact⟨rfl,(Below.refl _ _).alloc (Nat.le_refl _) _⟩
theorem Q2t(w:World)(base:Nat)(v:Value)(l:List (Int×Int))(k:Int)(hown:Own Qj 2 60 base w v l)(hr:Qd l)(hlen:l.length<=1000000):
  Calls Tryz.prog 170 #[v,.int .i64 k,.func (.func 171) #[] #[]] w fun e w'=>
   e=.returned (.tuple #[.int .i64 (pos l k),.bool (has l k)])/\Below w.heap.size w w':=by
 obtain⟨A,cap,rfl,hnc,hcm⟩:=hown.slice
 have HR:Sc (Qd l):=⟨hr⟩
 have HO:Sc (Own Qj 2 60 base w (.slice A l.length cap) l):=⟨hown⟩
 clear hr hown
 go_enter Tryz.func170,Tryz.ntmps170
 go_wp2
 go_loopg [9,10] l.length (fun kx s9 s10 wr=>∃lo hi:Nat,s9=.int .i64 lo/\s10=.int .i64 hi/\lo<=hi/\hi<=l.length/\hi - lo<=kx/\Sc (Below w.heap.size w wr)/\
  Sc ((∀t x,t<lo->l[t]? =some x->x.1<k)/\(∀t x,hi<=t->l[t]? =some x->k<=x.1)))
 case atStart=>exact⟨0,l.length,rfl,rfl,Nat.zero_le _,Nat.le_refl _,by omega,⟨Below.refl _ _⟩,⟨fun t x ht=>absurd ht (Nat.not_lt_zero _),fun t x ht hx=>by rw[List.getElem?_eq_none ht]at hx;cases hx⟩⟩
 case round=>
  obtain⟨lo,hi,rfl,rfl,hlh,hin,hg,HB,I⟩:=hrel
  by_cases hlt:lo<hi
  ·obtain⟨g,cq,he,hgb,hgw,_,_⟩:=HO.o.form (by omega)
   injection he with hA _ hC
   subst hA hC
   obtain⟨x,hx⟩:∃x,l[(lo+hi) / 2]? =some x:=⟨_,List.getElem?_eq_getElem (by omega)⟩
   have HO1:=HO.o.below HB.o
   obtain⟨c0,c1⟩:=HO1.Xb hx
   have HX:Sc (l[(lo+hi) / 2]? =some x):=⟨hx⟩
   clear hx HO1
   by_cases hc:O1 x.1 k<0
   ·go_wp2_with (go_at_call 171;refine(U1 _ _ _ _).mono ?_;rintro e w' ⟨rfl,hb⟩)
    go_roundg (hi - ((lo+hi) / 2+1))
    case measure=>omega
    case rel=>
     refine⟨(lo+hi) / 2+1,hi,by rw[show((lo:Int)+(hi:Int)) / 2+1=(((lo+hi) / 2+1:Nat):Int) by omega],rfl,by omega,hin,Nat.le_refl _,⟨HB.o.trans (hb.mono HB.o.size)⟩,⟨fun t y ht hy=> ?_,I.o.2⟩⟩
     have h1:=HR.o.le (show t<=(lo+hi) / 2 by omega) hy HX.o
     have h2:=Q3c.1 hc
     omega
   ·go_wp2_with (go_at_call 171;refine(U1 _ _ _ _).mono ?_;rintro e w' ⟨rfl,hb⟩)
    go_roundg ((lo+hi) / 2 - lo)
    case measure=>omega
    case rel=>
     refine⟨lo,(lo+hi) / 2,rfl,by rw[show((lo:Int)+(hi:Int)) / 2=(((lo+hi) / 2:Nat):Int) by omega],by omega,by omega,Nat.le_refl _,⟨HB.o.trans (hb.mono HB.o.size)⟩,⟨I.o.1,fun t y ht hy=> ?_⟩⟩
     have h1:=HR.o.le ht HX.o hy
     have h2:¬x.1<k:=fun h=>by have:=Q3c.2 h;omega
     omega
  ·obtain rfl:hi=lo:=by omega
   have hp:pos l k=hi:=Oz k l hi hin I.o.1 I.o.2
   by_cases hn:hi<l.length
   ·obtain⟨g,cq,he,hgb,hgw,_,_⟩:=HO.o.form (by omega)
    injection he with hA _ hC
    subst hA hC
    obtain⟨x,hx⟩:∃x,l[hi]? =some x:=⟨_,List.getElem?_eq_getElem (by omega)⟩
    have HO1:=HO.o.below HB.o
    obtain⟨c0,c1⟩:=HO1.Xb hx
    have hhas:has l k=decide (x.1=k):=X1x HR.o k (by rw[hp];exact hx)
    have HP:Sc (pos l k=hi):=⟨hp⟩
    have HH:Sc (has l k=decide (x.1=k)):=⟨hhas⟩
    clear hx HO1 hp hhas
    by_cases hc:O1 x.1 k=0
    ·have hb0:(O1 x.1 k==0)=true:=by rw[hc];rfl
     have hd:=Q3b.1 hc
     have HD:Sc (x.1=k):=⟨hd⟩
     clear hd hc
     go_wp2_with (go_at_call 171;refine(U1 _ _ _ _).mono ?_;rintro e w' ⟨rfl,hb⟩)
     go_ret2
     exact⟨by rw[HP.o,HH.o,decide_eq_true HD.o];rfl,HB.o.trans (hb.mono HB.o.size)⟩
    ·have hb0:(O1 x.1 k==0)=false:=by simpa using hc
     have HD:Sc (¬x.1=k):=⟨fun h=>hc (Q3b.2 h)⟩
     clear hc
     go_wp2_with (go_at_call 171;refine(U1 _ _ _ _).mono ?_;rintro e w' ⟨rfl,hb⟩)
     go_ret2
     exact⟨by rw[HP.o,HH.o,decide_eq_false HD.o];rfl,HB.o.trans (hb.mono HB.o.size)⟩
   ·have hhas:has l k=false:=X1w HR.o k (by omega)
    have HP:Sc (pos l k=hi):=⟨hp⟩
    have HH:Sc (has l k=false):=⟨hhas⟩
    clear hp hhas
    go_wp2
    go_ret2
    exact⟨by rw[HP.o,HH.o];rfl,HB.o⟩
end
section
set_option maxHeartbeats 2000000
set_option maxRecDepth 4000
theorem Y2f:(Tryz.prog.info? 60).map (fun i=>(i.zero,i.size,i.bytes))=some (some (.agg #[.int .i64 0,.int .i64 0]),2,16):=by kernel_rfl
theorem X9o{w:World}{base:Nat}{e:TypeId}{v:Value}{l:List (Int×Int)}{x:Int×Int}(h:w.ownsRow base e 2 v (l.length+1) (flat Qj l++Qj x)):Own Qj 2 e base w v (l++[x]):=by
 unfold Own
 rw[Qc,Qm,List.length_append]
 exact h
def D8(base:Nat)(row:Option Nat)(l:List (Int×Int))(w:World)(e:Ending)(w':World):Prop:=
 ∃v',e=.returned v'/\Own Qj 2 60 base w' v' l/\w.grownBy w' row/\(v'.ownBlock=row\/v'.ownBlock=some w.heap.size)
theorem Q2s(w:World)(base:Nat)(v:Value)(l:List (Int×Int))(x:Int×Int)(hown:Own Qj 2 60 base w v l)(hlen:l.length<=1000000)
  (b:Nat) (hb:w.heap[b]? =some (.cells (Qj x).toArray 60 (0,0))) (hbase:base<=w.heap.size):
  Calls Tryz.prog 154 #[v,.int .i64 l.length,.slice (some ⟨b,0,none⟩) 1 1] w (D8 base v.ownBlock (l++[x]) w):=by
 obtain⟨i0,hi,hz0,hz1,hz2⟩:=info_parts Y2f
 obtain⟨A,cap,rfl,hnc,hcm⟩:=hown.slice
 have HO:Sc (Own Qj 2 60 base w (.slice A l.length cap) l):=⟨hown⟩
 have HB:Sc (w.heap[b]? =some (.cells (Qj x).toArray 60 (0,0))):=⟨hb⟩
 clear hown hb
 rw[Vy]
 go_enter Tryz.func154,Tryz.ntmps154
 go_wp2_with (at_builtin;refine wpList_append_own_at _ rfl _ _ 32 rfl base 60 i0 (.agg #[.int .i64 0,.int .i64 0]) 2 16 Tryz.underlying32 hi hz0 hz1 hz2 rfl (by decide) _ l.length (flat Qj l) rfl HO.o ⟨b,0,none⟩ 1 1 (Qj x) rfl rfl ?c1 ?c2 ?c3 ?c4 hbase ?_)
 case c1=>exact World.news_of_block HB.o
 case c2=>exact Xh.one x
 case c3=>unfold maxLen;omega
 case c4=>omega
 all_goals
  intro v' w' h1 h2 h3 h4
  rw[Vy]at h2 h4
  have H1:Sc (w'.ownsRow base 60 2 v' (l.length+1) (flat Qj l++Qj x)):=⟨h1⟩
  have H2:=Q0 h2
  have H4:=Q0 h4
  clear h1 h2 h3 h4
  go_wp2
  go_ret
  exact⟨v',rfl,X9o H1.o,H2.o,H4.o⟩
theorem X5f{cur:Array Value}{l:List (Int×Int)}{cap k:Nat}(x:Int×Int)(hs:cur.size=cap*2)(ht:cur.toList.take (l.length*2)=flat Qj l)(hk:k<=l.length)(hn:l.length+1<=cap):
  (lay (lay cur.toList ((k+1)*2) (flat Qj (l.drop k))) (k*2) (Qj x)).take ((l.length+1)*2)=flat Qj (l.take k++x::l.drop k):=by
 have h1:(flat Qj (l.drop k)).length=(l.length - k)*2:=by rw[Xh.Qp,List.length_drop]
 have hcl:cur.toList.length=cap*2:=by rw[Array.length_toList,hs]
 have h2:(Qj x).length=2:=rfl
 have hl1:(lay cur.toList ((k+1)*2) (flat Qj (l.drop k))).length=cap*2:=by rw[Y8 (by omega),hcl]
 have hT:flat Qj (l.take k++x::l.drop k)=flat Qj (l.take k)++(Qj x++flat Qj (l.drop k)):=by rw[Qc,Z1]
 have h3:(flat Qj (l.take k)).length=k*2:=by rw[Xh.Qp,List.length_take];congr 1;omega
 rw[hT]
 apply List.ext_getElem?
 intro j
 rw[List.getElem?_take]
 by_cases hj:j<(l.length+1)*2
 ·rw[if_pos hj,Gi _ _ _ (by omega),Gi _ _ _ (by omega)]
  by_cases c1:j<k*2
  ·rw[if_pos c1,if_pos (by omega),List.getElem?_append_left (by omega),<-Xh.Ub l k,List.getElem?_take,if_pos c1,<-ht,List.getElem?_take,if_pos (by omega)]
  ·rw[if_neg c1,List.getElem?_append_right (by omega),h3]
   by_cases c2:j<k*2+2
   ·rw[if_pos (by omega),List.getElem?_append_left (by omega)]
   ·rw[if_neg (by omega),if_neg (by omega),if_pos (by omega),List.getElem?_append_right (by omega),h2]
    congr 1
    omega
 ·rw[if_neg hj,List.getElem?_eq_none (by simp only[List.length_append];omega)]
theorem Cv(w:World)(base g cap:Nat)(l:List (Int×Int))(k:Nat)(x:Int×Int)(hown:Own Qj 2 60 base w (.slice (some ⟨g,0,none⟩) l.length cap) l)(hlen:l.length<=1000000)(hk:k<l.length)(hroom:l.length+1<=cap)
  (b:Nat) (hb:w.heap[b]? =some (.cells (Qj x).toArray 60 (0,0))) (hne:b≠g):
  Calls Tryz.prog 154 #[.slice (some ⟨g,0,none⟩) l.length cap,.int .i64 k,.slice (some ⟨b,0,none⟩) 1 1] w (D8 base (some g) (l.take k++x::l.drop k) w):=by
 obtain⟨i0,hi,hz0,hz1,hz2⟩:=info_parts Y2f
 obtain⟨cur,hg,hbg,_,hn,hcm,hs,ht⟩:=hown.block
 have hov:∀lb cb,(callFunc 172 #[.slice (some ⟨b,0,none⟩) 1 1,.slice (some ⟨g,(k+1)*2,none⟩) lb cb]).run Tryz.prog w=.ok (.value (.bool false)) w:=fun lb cb=>by
  rw[run_callFunc_extern Tryz.func172 (by kernel_rfl) (by kernel_rfl) (by kernel_rfl) (e:=Extern.SlicesOverlaps.overlaps #[32,32] #[60]) (by kernel_rfl),
   Lib.run_overlaps_apart w 32 60 60 Tryz.underlying32 2 (fun w=>by simp[sizeOf,typeInfo,hi,hz1]) ⟨b,0,none⟩ ⟨g,(k+1)*2,none⟩ 1 1 lb cb hne 60 60 2 cur.size (by simp[World.shape?,hb]) (by simp[World.shape?,hg]) (by omega) (by simp[World.frozen?,hb]) (by simp[World.frozen?,hb])]
  rfl
 have hcl:(flat Qj (l.drop k)).length=(l.length - k)*2:=by rw[Xh.Qp,List.length_drop]
 have hcp1:∀ty dc sc,(Builtin.copy_ #[32,32] ty #[.slice (some ⟨g,(k+1)*2,none⟩) (l.length - k) dc,.slice (some ⟨g,k*2,none⟩) (l.length+1 - k) sc]).run Tryz.prog w.drew=.ok (goInt (Nat.min (l.length+1 - k) (l.length - k))) (w.drew.setRow g (lay cur.toList ((k+1)*2) (flat Qj (l.drop k))).toArray):=fun ty dc sc=>
  Zm w.drew _ _ ty 60 60 i0 Tryz.underlying32 hi g ((k+1)*2) cur hg (l.length - k) dc ⟨g,k*2,none⟩ (l.length+1 - k) sc (flat Qj (l.drop k)) (by rw[hcl,hz1];congr 1;simp only[Nat.min_def];split<;>omega)
   (fun j u hj=>by
    have ha:(⟨g,k*2,none⟩:Addr).add j=⟨g,k*2+j,none⟩:=by unfold Addr.add;split<;>simp_all
    rw[ha]
    have hd:=Xh.Gc l k
    rw[<-hd,List.getElem?_drop,<-ht,List.getElem?_take]at hj
    split at hj
    ·simp only[World.cell?,World.drew,hg]
     simpa using hj
    ·cases hj) (Xh.Xk _) (by rw[hcl];omega)
 obtain⟨W1,hW1⟩:∃W1,W1=w.drew.setRow g (lay cur.toList ((k+1)*2) (flat Qj (l.drop k))).toArray:=⟨_,rfl⟩
 rw[<-hW1]at hcp1
 have hg1:W1.heap[g]? =some (.cells (lay cur.toList ((k+1)*2) (flat Qj (l.drop k))).toArray 60 (0,0)):=by rw[hW1];exact setRow_heap w.drew g cur _ _ _ hg
 have hb1:W1.heap[b]? =some (.cells (Qj x).toArray 60 (0,0)):=by rw[hW1,setRow_other w.drew g b _ hne];exact hb
 have hcl0:cur.toList.length=cap*2:=by rw[Array.length_toList,hs]
 have hl1:(lay cur.toList ((k+1)*2) (flat Qj (l.drop k))).length=cap*2:=by rw[Y8 (by rw[hcl,hcl0];omega),hcl0]
 have hcp2:∀ty dc,(Builtin.copy_ #[32,32] ty #[.slice (some ⟨g,k*2,none⟩) (l.length+1 - k) dc,.slice (some ⟨b,0,none⟩) 1 1]).run Tryz.prog W1=.ok (goInt (Nat.min 1 (l.length+1 - k))) (W1.setRow g (lay (lay cur.toList ((k+1)*2) (flat Qj (l.drop k))) (k*2) (Qj x)).toArray):=fun ty dc=>
  Zm W1 _ _ ty 60 60 i0 Tryz.underlying32 hi g (k*2) _ hg1 (l.length+1 - k) dc ⟨b,0,none⟩ 1 1 (Qj x) (by rw[hz1,Xh.len];simp only[Nat.min_def];split<;>omega)
   (World.news_of_block hb1) (Xh.one x) (by rw[Xh.len,List.size_toArray,hl1];omega)
 obtain⟨W2,hW2⟩:∃W2,W2=W1.setRow g (lay (lay cur.toList ((k+1)*2) (flat Qj (l.drop k))) (k*2) (Qj x)).toArray:=⟨_,rfl⟩
 rw[<-hW2]at hcp2
 have HG2:Sc (Own Qj 2 60 base W2 (.slice (some ⟨g,0,none⟩) (l.length+1) cap) (l.take k++x::l.drop k)):=⟨by
  refine Own.Jc (cur:=(lay (lay cur.toList ((k+1)*2) (flat Qj (l.drop k))) (k*2) (Qj x)).toArray) ?_ hbg Xh ?_ hroom hcm ?_ ?_
  ·rw[hW2];exact setRow_heap W1 g _ _ _ _ hg1
  ·simp only[List.length_append,List.length_cons,List.length_take,List.length_drop];omega
  ·rw[List.size_toArray,Y8 (by rw[Xh.len,hl1];omega),hl1]
  ·exact X5f x hs ht (by omega) hroom⟩
 have HF:Sc (w.grownBy W2 (some g)):=⟨by
  rw[hW2,hW1]
  have hd:w.grownBy w.drew (some g):=⟨rfl,rfl,rfl,Nat.le_refl _,fun _ _ _=>rfl⟩
  exact(hd.trans (J1 w.drew g _)).trans (J1 _ g _)⟩
 have C1:=Q0 hcp1
 have C2:=Q0 hcp2
 have n1:((k:Int)==(l.length:Int))=false:=by simp;omega
 have n2:¬cap=k:=by omega
 have n3:¬cap=k+1:=by omega
 have n4:¬(cap:Int)<(l.length:Int)+1:=by omega
 clear hcp1 hcp2 hW1 hW2 hg hb hg1 hb1 hs ht hown hcl hl1 hcl0
 go_enter Tryz.func154,Tryz.ntmps154
 go_wp2
 have hw1:IntKind.i64.wrap ((k:Int)+1)=(k:Int)+1:=by rw[IntKind.wrap_i64];omega
 have hw2:(0:Int)<=(k:Int)+1:=by omega
 have hw3:((k:Int)+1).toNat=k+1:=by omega
 have hw4:(k:Int)<=(l.length:Int)+1:=by omega
 have hw5:k<=l.length:=by omega
 go_region_law (go_loud (refine Ua rfl (.tmp 73) (.tmp 76) 32 32 rfl (.slice (some ⟨g,(k+1)*2,none⟩) (l.length - k) (cap - (k+1))) (.slice (some ⟨g,k*2,none⟩) (l.length+1 - k) (cap - k)) (by simp[Act.eval,Act.put]) (by simp[Act.eval,Act.put]) (C1.o 3 _ _) ?_))
 clear hw1 hw2 hw3 hw4 hw5
 go_wp2_with (with_reducible refine G3 W1 rfl (.tmp 80) (.tmp 81) 32 32 rfl (.slice (some ⟨g,k*2,none⟩) (l.length+1 - k) (cap - k)) (.slice (some ⟨b,0,none⟩) 1 1) rfl rfl (C2.o 3 _) ?_)
 go_ret
 exact⟨_,rfl,HG2.o,HF.o,.inl rfl⟩
theorem X9i{cur cur1:Array Value}{l:List (Int×Int)}{C k:Nat}(x:Int×Int)(hs:cur1.size=C*2)(ht:cur.toList.take (l.length*2)=flat Qj l)(hp:cur1.toList.take (k*2)=cur.toList.take (k*2))(hk:k<=l.length)(hn:l.length+1<=C):
  (lay (lay cur1.toList (k*2) (Qj x)) ((k+1)*2) (flat Qj (l.drop k))).take ((l.length+1)*2)=flat Qj (l.take k++x::l.drop k):=by
 have h1:(flat Qj (l.drop k)).length=(l.length - k)*2:=by rw[Xh.Qp,List.length_drop]
 have hcl:cur1.toList.length=C*2:=by rw[Array.length_toList,hs]
 have h2:(Qj x).length=2:=rfl
 have hl1:(lay cur1.toList (k*2) (Qj x)).length=C*2:=by rw[Y8 (by omega),hcl]
 have hT:flat Qj (l.take k++x::l.drop k)=flat Qj (l.take k)++(Qj x++flat Qj (l.drop k)):=by rw[Qc,Z1]
 have h3:(flat Qj (l.take k)).length=k*2:=by rw[Xh.Qp,List.length_take];congr 1;omega
 have hq:cur1.toList.take (k*2)=flat Qj (l.take k):=by
  rw[hp,<-Xh.Ub l k,<-ht,List.take_take]
  congr 1
  omega
 rw[hT]
 apply List.ext_getElem?
 intro j
 rw[List.getElem?_take]
 by_cases hj:j<(l.length+1)*2
 ·rw[if_pos hj,Gi _ _ _ (by omega),Gi _ _ _ (by omega)]
  by_cases c1:j<k*2
  ·rw[if_pos (by omega),if_pos c1,List.getElem?_append_left (by omega),<-hq,List.getElem?_take,if_pos c1]
  ·rw[List.getElem?_append_right (by omega),h3]
   by_cases c2:j<k*2+2
   ·rw[if_pos (by omega),if_neg c1,if_pos (by omega),List.getElem?_append_left (by omega)]
   ·rw[if_neg (by omega),if_pos (by omega),List.getElem?_append_right (by omega),h2]
    congr 1
    omega
 ·rw[if_neg hj,List.getElem?_eq_none (by simp only[List.length_append];omega)]
theorem Q1c(w:World)(base g:Nat)(l:List (Int×Int))(k:Nat)(x:Int×Int)(hown:Own Qj 2 60 base w (.slice (some ⟨g,0,none⟩) l.length l.length) l)(hlen:l.length<=1000000)(hk:k<l.length)
  (b:Nat) (hb:w.heap[b]? =some (.cells (Qj x).toArray 60 (0,0))) (hbase:base<=w.heap.size):
  Calls Tryz.prog 154 #[.slice (some ⟨g,0,none⟩) l.length l.length,.int .i64 k,.slice (some ⟨b,0,none⟩) 1 1] w (D8 base (some g) (l.take k++x::l.drop k) w):=by
 obtain⟨i0,hi,hz0,hz1,hz2⟩:=info_parts Y2f
 obtain⟨cur,hg,hbg,_,hn,hcm,hs,ht⟩:=hown.block
 obtain⟨C,cur1,hap,hs1,hp1,hC,hC2⟩:=Gu (P:= Tryz.prog) w 32 3 32 60 i0 (.agg #[.int .i64 0,.int .i64 0]) .i64 .i64 Tryz.underlying32 Tryz.underlying3 hi hz0 (by rw[hz1];rfl) g k l.length (l.length+1 - k) cur hg (by rw[hz1,hs];omega) (by omega) (by omega) (by omega) (by rw[hz2];omega) (by omega)
 rw[hz1]at hs1 hp1
 rw[show k+(l.length+1 - k)=l.length+1 by omega]at hap hC
 rw[show((l.length+1 - k:Nat):Int)=(l.length:Int)+1 - k by omega]at hap
 obtain⟨W1,hW1⟩:∃W1,W1=w.drew.alloc (.cells cur1 60):=⟨_,rfl⟩
 rw[<-hW1]at hap
 obtain⟨G,hG⟩:∃G,G=w.heap.size:=⟨_,rfl⟩
 have hbw:b<w.heap.size:=(Array.getElem?_eq_some_iff.1 hb).1
 have hgw:g<w.heap.size:=(Array.getElem?_eq_some_iff.1 hg).1
 have hG1:W1.heap[G]? =some (.cells cur1 60 (0,0)):=by rw[hW1,hG];exact heap_alloc_new w.drew _
 have hold:∀q,q<w.heap.size->W1.heap[q]? =w.heap[q]? :=fun q hq=>by rw[hW1];exact heap_alloc_old w.drew _ hq
 rw[<-hG]at hap
 have hcl0:cur1.toList.length=C*2:=by rw[Array.length_toList,hs1]
 have hcp1:∀ty dc,(Builtin.copy_ #[32,32] ty #[.slice (some ⟨G,k*2,none⟩) (l.length+1 - k) dc,.slice (some ⟨b,0,none⟩) 1 1]).run Tryz.prog W1=.ok (goInt (Nat.min 1 (l.length+1 - k))) (W1.setRow G (lay cur1.toList (k*2) (Qj x)).toArray):=fun ty dc=>
  Zm W1 _ _ ty 60 60 i0 Tryz.underlying32 hi G (k*2) _ hG1 (l.length+1 - k) dc ⟨b,0,none⟩ 1 1 (Qj x) (by rw[hz1,Xh.len];simp only[Nat.min_def];split<;>omega)
   (World.news_of_block (by rw[hold b hbw];exact hb)) (Xh.one x) (by rw[Xh.len,hs1];omega)
 obtain⟨W2,hW2⟩:∃W2,W2=W1.setRow G (lay cur1.toList (k*2) (Qj x)).toArray:=⟨_,rfl⟩
 rw[<-hW2]at hcp1
 have hG2:W2.heap[G]? =some (.cells (lay cur1.toList (k*2) (Qj x)).toArray 60 (0,0)):=by rw[hW2];exact setRow_heap W1 G _ _ _ _ hG1
 have hg2:W2.heap[g]? =some (.cells cur 60 (0,0)):=by rw[hW2,setRow_other W1 G g _ (by omega),hold g hgw];exact hg
 have hcl:(flat Qj (l.drop k)).length=(l.length - k)*2:=by rw[Xh.Qp,List.length_drop]
 have hl1:(lay cur1.toList (k*2) (Qj x)).length=C*2:=by rw[Y8 (by rw[Xh.len,hcl0];omega),hcl0]
 have hcp2:∀ty dc sc,(Builtin.copy_ #[32,32] ty #[.slice (some ⟨G,(k+1)*2,none⟩) (l.length - k) dc,.slice (some ⟨g,k*2,none⟩) (l.length - k) sc]).run Tryz.prog W2.drew=.ok (goInt (Nat.min (l.length - k) (l.length - k))) (W2.drew.setRow G (lay (lay cur1.toList (k*2) (Qj x)) ((k+1)*2) (flat Qj (l.drop k))).toArray):=fun ty dc sc=>
  Zm W2.drew _ _ ty 60 60 i0 Tryz.underlying32 hi G ((k+1)*2) _ hG2 (l.length - k) dc ⟨g,k*2,none⟩ (l.length - k) sc (flat Qj (l.drop k)) (by rw[hcl,hz1];congr 1;simp only[Nat.min_def];split<;>omega)
   (fun j u hj=>by
    have ha:(⟨g,k*2,none⟩:Addr).add j=⟨g,k*2+j,none⟩:=by unfold Addr.add;split<;>simp_all
    rw[ha]
    have hd:=Xh.Gc l k
    rw[<-hd,List.getElem?_drop,<-ht,List.getElem?_take]at hj
    split at hj
    ·simp only[World.cell?,World.drew,hg2]
     simpa using hj
    ·cases hj) (Xh.Xk _) (by rw[hcl,List.size_toArray,hl1];omega)
 obtain⟨W3,hW3⟩:∃W3,W3=W2.drew.setRow G (lay (lay cur1.toList (k*2) (Qj x)) ((k+1)*2) (flat Qj (l.drop k))).toArray:=⟨_,rfl⟩
 rw[<-hW3]at hcp2
 have HG3:Sc (Own Qj 2 60 base W3 (.slice (some ⟨G,0,none⟩) (l.length+1) C) (l.take k++x::l.drop k)):=⟨by
  refine Own.Jc (cur:=(lay (lay cur1.toList (k*2) (Qj x)) ((k+1)*2) (flat Qj (l.drop k))).toArray) ?_ (by omega) Xh ?_ hC hC2 ?_ ?_
  ·rw[hW3];exact setRow_heap W2.drew G _ _ _ _ hG2
  ·simp only[List.length_append,List.length_cons,List.length_take,List.length_drop];omega
  ·rw[List.size_toArray,Y8 (by rw[hcl,hl1];omega),hl1]
  ·exact X9i x hs1 ht hp1 (by omega) hC⟩
 have HF:Sc (w.grownBy W3 (some g)):=⟨by
  refine⟨by rw[hW3,hW2,hW1];rfl,by rw[hW3,hW2,hW1];rfl,by rw[hW3,hW2,hW1];rfl,?_,fun q hq hne=> ?_⟩
  ·have hz:(w.drew.alloc (.cells cur1 60)).heap.size=w.heap.size+1:=by simp
   rw[hW3,hW2,hW1]
   simp[World.setRow]
  ·rw[hW3,setRow_other W2.drew G q _ (by omega)]
   show W2.heap[q]? =_
   rw[hW2,setRow_other W1 G q _ (by omega),hold q hq]⟩
 have HZ:Sc (G=w.heap.size):=⟨hG⟩
 have CA:=Q0 hap
 have C1:=Q0 hcp1
 have C2:=Q0 hcp2
 have n1:((k:Int)==(l.length:Int))=false:=by simp;omega
 have n2:¬l.length=k:=by omega
 have n4:(l.length:Int)<(l.length:Int)+1:=by omega
 have n5:¬C=k:=by omega
 have n6:¬C=k+1:=by omega
 clear hcp1 hcp2 hap hW1 hW2 hW3 hg hb hg2 hG1 hG2 hs hs1 hp1 ht hown hcl hl1 hcl0 hold hG
 go_enter Tryz.func154,Tryz.ntmps154
 go_wp2_with (first|(at_builtin;refine Lib.wpList_append_run _ rfl (.tmp 34) (.tmp 39) 32 3 rfl (.slice (some ⟨g,0,none⟩) k l.length) (.int .i64 ((l.length:Int)+1 - k)) rfl rfl _ _ CA.o ?_)|(with_reducible refine G3 W1 rfl (.tmp 43) (.tmp 44) 32 32 rfl (.slice (some ⟨G,k*2,none⟩) (l.length+1 - k) (C - k)) (.slice (some ⟨b,0,none⟩) 1 1) rfl rfl (C1.o 3 _) ?_))
 have hw1:IntKind.i64.wrap ((k:Int)+1)=(k:Int)+1:=by rw[IntKind.wrap_i64];omega
 have hw2:(0:Int)<=(k:Int)+1:=by omega
 have hw3:((k:Int)+1).toNat=k+1:=by omega
 have hw4:(k:Int)<=(l.length:Int):=by omega
 have hw5:k<=l.length:=by omega
 go_region_law (go_loud (refine Ua rfl (.tmp 50) (.tmp 53) 32 32 rfl (.slice (some ⟨G,(k+1)*2,none⟩) (l.length - k) (C - (k+1))) (.slice (some ⟨g,k*2,none⟩) (l.length - k) (l.length - k)) (by simp[Act.eval,Act.put]) (by simp[Act.eval,Act.put]) (C2.o 3 _ _) ?_))
 clear hw1 hw2 hw3 hw4 hw5
 go_wp2
 go_ret
 exact⟨_,rfl,HG3.o,HF.o,.inr (by rw[<-HZ.o];rfl)⟩
theorem Q2r(w:World)(base:Nat)(v:Value)(l:List (Int×Int))(k:Nat)(x:Int×Int)(hown:Own Qj 2 60 base w v l)(hlen:l.length<=1000000)(hk:k<=l.length)
  (b:Nat) (hb:w.heap[b]? =some (.cells (Qj x).toArray 60 (0,0))) (hne:v.ownBlock≠some b) (hbase:base<=w.heap.size):
  Calls Tryz.prog 154 #[v,.int .i64 k,.slice (some ⟨b,0,none⟩) 1 1] w (D8 base v.ownBlock (l.take k++x::l.drop k) w):=by
 rcases Nat.lt_or_eq_of_le hk with h|rfl
 ·obtain⟨g,cap,rfl,_,_,hn,_⟩:=hown.form (by omega)
  by_cases hc:l.length+1<=cap
  ·exact Cv w base g cap l k x hown hlen h hc b hb (fun h=>hne (by rw[h];rfl))
  ·obtain rfl:cap=l.length:=by omega
   exact Q1c w base g l k x hown hlen h b hb hbase
 ·have:=Q2s w base v l x hown hlen b hb hbase
  rwa [List.take_length,List.drop_length]
end
end Go.Proofs.YtoapihepdallbaaGreatDoor
