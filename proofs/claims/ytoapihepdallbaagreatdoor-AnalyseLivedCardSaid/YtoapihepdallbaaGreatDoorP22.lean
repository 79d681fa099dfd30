import Derived.Laws.Bits64
import Derived.Laws.BitsLemmas
import Derived.Test.YtoapihepdallbaaGreatDoorP19
namespace Go.Proofs.YtoapihepdallbaaGreatDoor
open Go.RowKit
section
set_option maxHeartbeats 2000000
set_option maxRecDepth 4000
theorem Own.Y8o{w:World}{g n cap base:Nat}{e:TypeId}{l:List Int}(h:Own Yx 1 e base w (.slice (some ⟨g,0,none⟩) n cap) l){k:Nat}{x:Int}(y:Int)(hx:l[k]? =some x):Own Yx 1 e base (w.setCell ⟨g,k,none⟩ (.int .u8 y)) (.slice (some ⟨g,0,none⟩) n cap) (l.set k y):=by
 have:=Own.set Ee h (k:=k) (j:=0) (x:=x) (x':=y) (u:=.int .u8 y) hx (by omega) rfl
 rw[Nat.mul_one,Nat.add_zero]at this
 exact this
theorem Ue(n:Int)(h₀:0<=n)(h₁:n<2 ^ 64):IntKind.u64.wrap n=n:=by rw[IntKind.wrap_u64];omega
theorem Q1v{B:Nat}{w W:World}(h:Below B w W)(n:Nat):Below B w (W.drewN n):=⟨h.os,h.tape,h.output,h.size,h.block⟩
theorem Q6g(w:World)(u v:Value)(l m:List Int)(hown:RdB w u l)(hown':RdB w v m)(hlen:l.length<=1000000)(hlen':m.length<=1000000):
  Calls Tryz.prog 164 #[u,v] w fun e w'=>e=.returned (.bool (decide (l=m)))/\Below w.heap.size w w':=by
 obtain⟨A,cap,rfl⟩:=hown.slice
 obtain⟨A',cap',rfl⟩:=hown'.slice
 by_cases hl:l.length=m.length
 ·obtain⟨n,hn⟩:∃n,l.length=n:=⟨_,rfl⟩
  rw[hn]at hl hown hlen ⊢
  rw[<-hl]at hown' hlen' ⊢
  have HN:=Q0 hn
  have HM:=Q0 hl
  have HO:=Q0 hown
  have HO':=Q0 hown'
  clear hown hown' hn hl
  go_enter Tryz.func164,Tryz.ntmps164
  go_wp2
  go_loopg [5,6] n (fun kx s5 _ wr=>∃i:Nat,s5=.int .i64 i/\i<=n/\n - i<=kx/\Sc (Below w.heap.size w wr)/\Sc (l.take i=m.take i))
  case atStart=>exact⟨0,rfl,by omega,by omega,⟨Below.refl _ _⟩,⟨rfl⟩⟩
  case round=>
   obtain⟨i,rfl,hin,hg,HB,HE⟩:=hrel
   by_cases hlt:i<n
   ·obtain⟨x,hx⟩:∃x,l[i]? =some x:=⟨_,List.getElem?_eq_getElem (by rw[HN.o];exact hlt)⟩
    obtain⟨y,hy⟩:∃y,m[i]? =some y:=⟨_,List.getElem?_eq_getElem (by rw[<-HM.o];exact hlt)⟩
    obtain⟨g,off,c2,he,_,_,hcs⟩:=(HO.o.bel HB.o).form (by rw[HN.o];omega)
    injection he with hA hn2 hC
    subst hA
    obtain⟨g',off',c2',he',_,_,hcs'⟩:=(HO'.o.bel HB.o).form (by rw[<-HM.o];omega)
    injection he' with hA' hn2' hC'
    subst hA'
    have c0:=hcs i x hx
    have d0:=hcs' i y hy
    have HX:=Q0 hx
    have HY:=Q0 hy
    have hil:(i:Int)<n:=by omega
    clear hx hy hcs hcs' hn2 hC hn2' hC'
    by_cases hxy:x=y
    ·have HXY:Sc (l.take (i+1)=m.take (i+1)):=⟨by rw[List.take_add_one,List.take_add_one,HX.o,HY.o,HE.o,hxy]⟩
     have hd:(x==y)=true:=beq_iff_eq.2 hxy
     clear hxy
     go_wp2_with fail
     go_quiet (fail)
     go_wp2
     go_roundg (n - (i+1))
     case measure=>omega
     case rel=>exact⟨i+1,by go_num,by omega,Nat.le_refl _,⟨Q1v HB.o _⟩,HXY⟩
    ·have hd:(x==y)=false:=beq_eq_false_iff_ne.2 hxy
     have HF:Sc (decide (l=m)=false):=⟨decide_eq_false (fun h=>hxy (by have h1:=HX.o;rw[h,HY.o]at h1;injection h1 with h1;exact h1.symm))⟩
     clear hxy
     go_wp2_with fail
     go_quiet (fail)
     go_wp2
     go_ret
     exact⟨by rw[HF.o];rfl,Q1v HB.o _⟩
   ·obtain rfl:i=n:=by omega
    have HF:Sc (decide (l=m)=true):=⟨decide_eq_true (by
     have h:=HE.o
     rw[List.take_of_length_le (by rw[HN.o];exact Nat.le_refl _),List.take_of_length_le (by rw[<-HM.o];exact Nat.le_refl _)]at h
     exact h)⟩
    go_wp2
    go_ret
    exact⟨by rw[HF.o];rfl,HB.o⟩
 ·have HF:Sc (decide (l=m)=false):=⟨decide_eq_false (fun h=>hl (by rw[h]))⟩
  have hne:¬(l.length:Int)=m.length:=by omega
  clear hl hown hown'
  go_enter Tryz.func164,Tryz.ntmps164
  go_wp2
  go_ret
  exact⟨by rw[HF.o];rfl,Below.refl _ _⟩
def Q2q:List Int:=List.replicate 256 0
theorem Yy:Q2q.length=256:=List.length_replicate ..
theorem Y1b:Byt Q2q:=fun z hz=>by have:=List.eq_of_mem_replicate hz;omega
def Q3m:Array Value:=(flat Yx Q2q).toArray
def X4u(b:List Int)(k:Nat)(x:Int×Int):List Int:=U7 (U7 b (16+12*k) 4 (IntKind.u64.wrap x.1)) (20+12*k) 8 (IntKind.u64.wrap x.2)
def Vx(b:List Int)(l:List (Int×Int)):Nat->List Int
 |0=>b
 |k+1=>X4u (Vx b l k) k (l.getD k (0,0))
def Gx(n:Int)(m:Nat):List Int:=U7 (U7 Q2q 0 4 (IntKind.u64.wrap n)) 4 2 (m:Int)
def Yk(n:Int)(l:List (Int×Int)):List Int:=Vx (Gx n l.length) l l.length
theorem U4(n:Int)(m:Nat):(Gx n m).length=256:=by unfold Gx;rw[Xl,Xl,Yy]
theorem U2(b:List Int)(l:List (Int×Int))(k:Nat):(Vx b l k).length=b.length:=by
 induction k with
 |zero=>rfl
 |succ k ih=>unfold Vx X4u;rw[Xl,Xl,ih]
theorem Vz(n:Int)(l:List (Int×Int)):(Yk n l).length=256:=by unfold Yk;rw[U2,U4]
theorem X9d(n:Int)(m:Nat):Byt (Gx n m):=Q0l (Q0l Y1b _ _ _) _ _ _
theorem X8k{b:List Int}(h:Byt b)(l:List (Int×Int))(k:Nat):Byt (Vx b l k):=by
 induction k with
 |zero=>exact h
 |succ k ih=>exact Q0l (Q0l ih _ _ _) _ _ _
theorem X9r(n:Int)(l:List (Int×Int)):Byt (Yk n l):=X8k (X9d _ _) _ _
theorem X9q(W:World):Own Yx 1 5 W.heap.size (W.alloc (.cells Q3m 5)) (.slice (some ⟨W.heap.size,0,none⟩) 256 256) Q2q:=
 Own.Jc (heap_alloc_new _ _) (Nat.le_refl _) Ee Yy (Nat.le_refl _) (by unfold maxLen;omega) (by kernel_rfl) (by unfold Q3m;rw[List.take_of_length_le (by rw[Ee.Qp,Yy];exact Nat.le_refl _)])
theorem Q1p(w:World)(a:Int)(size:Nat)(ha:a=size)(h0:1<=size)(h1:size<=8):
  Calls Tryz.prog 156 #[.int .i64 a] w fun e w'=>e=.returned (.int .i64 size)/\w'=w:=by
 subst ha
 have m2:max (size:Int) 1=size:=by omega
 have m3:min (size:Int) 8=size:=by omega
 go_enter Tryz.func156,Tryz.ntmps156
 go_wp2
 go_ret
 exact⟨rfl,rfl⟩
theorem Y4j(n:Int)(j:Nat):(n / 256 ^ j) / 256=n / 256 ^ (j+1):=by rw[Int.ediv_ediv_of_nonneg (Int.pow_nonneg (by omega)),Int.pow_succ]
theorem Gs(w:World)(v:Value)(l:List Int)(a s:Int)(at_ size:Nat)(n:Int)(hown:RdB w v l)(ha:a=at_)(hs:s=size)(hlen:l.length<=1000000)(h0:1<=size)(h1:size<=8)(h2:at_+size<=l.length):
  Calls Tryz.prog 134 #[v,.int .i64 a,.int .i64 s,.int .u64 n] w (Q8r (U7 l at_ size n) w):=by
 subst ha hs
 obtain⟨N,hN⟩:∃N,l.length=N:=⟨_,rfl⟩
 have HN:=Q0 hN
 rw[hN]at hlen h2
 have HO:=Q0 hown
 clear hown hN
 go_enter Tryz.func134,Tryz.ntmps134
 go_wp2_with (go_at_call 131;refine(Gg _ _ l HO.o (by rw[HN.o];exact hlen)).mono ?_;rintro e w2 ⟨v2,rfl,ho,hb⟩;obtain⟨g,cap,rfl,hg,_,hcn,_⟩:=ho.form (by rw[HN.o];omega);rw[HN.o]at ho hcn ⊢;have HO2:=Q0 ho;have HB2:=Q0 hb;have HG:=Q0 hg;clear ho hb hg)
 go_loopg [3,10] size (fun kx s3 s10 wr=>∃(j:Nat),s10=.int .i64 j/\s3=.int .u64 (n / 256 ^ j)/\j<=size/\size - j<=kx/\Sc (Below w.heap.size w wr)/\Sc (Own Yx 1 5 w.heap.size wr (.slice (some ⟨g,0,none⟩) N cap) (U7 l at_ j n)))
 case atStart=>exact⟨0,rfl,by rw[Int.pow_zero,Int.ediv_one],by omega,by omega,HB2,⟨by rw[X9w];exact HO2.o⟩⟩
 case round=>
  obtain⟨j,rfl,rfl,hj,hg,HB,HR⟩:=hrel
  by_cases hlt:j<size
  ·have hjs:(j:Int)<size:=by omega
   have hg1: -(j:Int)<=at_:=by omega
   have hg2:(at_:Int)<(N:Int) - j:=by omega
   obtain⟨x,hx⟩:∃x,(U7 l at_ j n)[at_+j]? =some x:=⟨_,List.getElem?_eq_getElem (by rw[Xl,HN.o];omega)⟩
   have c0:=HR.o.Y6k hx
   have z0:=HR.o.Qr (at_+j)
   have HX:=Q0 hx
   have HS:Sc (U7 l at_ (j+1) n=(U7 l at_ j n).set (at_+j) (dig j n)):=⟨X9v l at_ j n (by rw[HN.o];omega)⟩
   have hidx:(at_:Int)+j<N:=by omega
   clear hx
   go_wp2_with (go_at_call 156;refine(Q1p _ _ size rfl h0 h1).mono ?_;rintro e w3 ⟨rfl,rfl⟩)
   go_roundg (size - (j+1))
   case measure=>omega
   case rel=>exact⟨j+1,by go_num,by rw[<-Y4j],by omega,Nat.le_refl _,⟨HB.o.setCell HG.o _⟩,⟨by rw[HS.o];exact HR.o.Y8o _ HX.o⟩⟩
  ·obtain rfl:j=size:=by omega
   go_wp2_with (go_at_call 156;refine(Q1p _ _ j rfl h0 h1).mono ?_;rintro e w3 ⟨rfl,rfl⟩)
   go_ret
   exact⟨_,rfl,HR.o,HB.o⟩
theorem Y8e:∀q,q<8->(256:Int) ^ q<=256 ^ 7:=by decide
theorem Y7h{n x:Int}(h0:0<=n)(h1:n<256 ^ 7)(hx0:0<=x)(hx1:x<256):bits .or .u64 (IntKind.u64.wrap (n*256)) (IntKind.u64.wrap x)=x+256*n:=by
 rw[Ue x hx0 (by omega),Ue (n*256) (by omega) (by omega)]
 rw[bits_join .u64 64 (by decide) Ue 8 (n*256) x (by omega) (by omega) (by omega) hx0 (by omega) (by omega)]
 omega
theorem E1(w:World)(v:Value)(l:List Int)(a s:Int)(at_ size:Nat)(hrd:RdB w v l)(ha:a=at_)(hs:s=size)(hbyt:Byt l)(hlen:l.length<=1000000)(hat:at_<=1000000)(h0:1<=size)(h1:size<=8):
  Calls Tryz.prog 162 #[v,.int .i64 a,.int .i64 s] w fun e w'=>e=.returned (.int .u64 (J9 l at_ size))/\w'=w:=by
 subst ha hs
 obtain⟨A,cap,rfl⟩:=hrd.slice
 obtain⟨N,hN⟩:∃N,l.length=N:=⟨_,rfl⟩
 rw[hN]at hrd hlen ⊢
 have HN:=Q0 hN
 have HO:=Q0 hrd
 have HY:=Q0 hbyt
 clear hrd hN hbyt
 go_enter Tryz.func162,Tryz.ntmps162
 have hw0:IntKind.i64.wrap ((size:Int) - 1)=(size:Int) - 1:=IntWalk.i64_in _ ⟨by omega,by omega⟩
 go_wp2_with (go_at_call 156;refine(Q1p _ _ size rfl h0 h1).mono ?_;rintro e w3 ⟨rfl,rfl⟩)
 go_loop [7,8] (fun s7 s8=>∃(j:Nat),s8=.int .i64 ((j:Int) - 1)/\s7=.int .u64 (J9 l (at_+j) (size - j))/\j<=size) (fun _ s8=>(intOf s8+1).toNat)
 case atStart=>exact⟨size,rfl,by rw[Nat.sub_self];rfl,by omega⟩
 case round=>
  obtain⟨j,rfl,rfl,hj⟩:=hrel
  rcases Nat.eq_zero_or_pos j with rfl|hj0
  ·go_wp2
   go_ret
   exact⟨by simp,rfl⟩
  ·obtain⟨p,rfl⟩:∃p,j=p+1:=⟨j - 1,by omega⟩
   obtain⟨n,hn⟩:∃n,J9 l (at_+(p+1)) (size - (p+1))=n:=⟨_,rfl⟩
   have hp0:((p+1:Nat):Int) - 1=p:=by omega
   have hg1: -(p:Int)<=at_:=by omega
   have HS:Sc (J9 l (at_+p) (size - p)=l.getD (at_+p) 0+256*n):=⟨by
    rw[<-hn,show size - p=(size - (p+1))+1 by omega,J9,show at_+p+1=at_+(p+1) by omega]⟩
   have HNN:=Q0 hn
   rw[hn,hp0]
   clear hn hp0
   have HNB:Sc (0<=n/\n<256 ^ 7):=⟨by rw[<-HNN.o];exact⟨Dd HY.o _ _,Int.lt_of_lt_of_le (Q3f HY.o _ _) (Y8e _ (by omega))⟩⟩
   have hw1:IntKind.i64.wrap ((p:Int) - 1)=(p:Int) - 1:=IntWalk.i64_in _ ⟨by omega,by omega⟩
   by_cases hin:at_+p<N
   ·have hg2:(at_:Int)<(N:Int) - p:=by omega
    obtain⟨g0,o0,cap0,he,_,hnc,hcells⟩:=HO.o.form (by rw[HN.o];omega)
    rw[HN.o]at he
    injection he with hA hB hC
    subst hA
    obtain⟨x,hx⟩:∃x,l[at_+p]? =some x:=⟨_,List.getElem?_eq_getElem (by rw[HN.o];exact hin)⟩
    have c0:=hcells _ _ hx
    have hxd:l.getD (at_+p) 0=x:=by rw[List.getD_eq_getElem?_getD,hx];rfl
    have hxb:=HY.o.get (at_+p)
    rw[hxd]at hxb
    have HOR:Sc (bits BinOp.or IntKind.u64 (IntKind.u64.wrap (n*256)) (IntKind.u64.wrap x)=J9 l (at_+p) (size - p)):=⟨by rw[Y7h HNB.o.1 HNB.o.2 hxb.1 hxb.2,HS.o,hxd]⟩
    have hidx:(at_:Int)+p<N:=by omega
    clear hcells hx hC hxd hxb
    go_wp2
    go_round
    case measure=>simp only[intOf];omega
    case rel=>exact⟨p,rfl,by rw[HOR.o],by omega⟩
   ·have hg2:¬(at_:Int)<(N:Int) - p:=by omega
    have HOR:Sc (IntKind.u64.wrap (n*256)=J9 l (at_+p) (size - p)):=⟨by
     rw[HS.o,List.getD_eq_getElem?_getD,List.getElem?_eq_none (by rw[HN.o];omega),Ue _ (by have:=HNB.o.1;omega) (by have:=HNB.o.2;omega)]
     simp[Int.mul_comm]⟩
    go_wp2
    go_round
    case measure=>simp only[intOf];omega
    case rel=>exact⟨p,rfl,by rw[HOR.o],by omega⟩
theorem Q2k(w:World)(v:Value)(l:List Int)(s:Int)(size:Nat)(hrd:RdB w v l)(hs:s=size)(hlen:l.length<=1000000)(hsz:size<=1000000):
  Calls Tryz.prog 133 #[v,.int .i64 s] w (Q8r (l++List.replicate (size - l.length) 0) w):=by
 subst hs
 obtain⟨i0,hi,hz0,hz1,hz2⟩:=info_parts Q4k
 obtain⟨d,hd⟩:∃d,size - l.length=d:=⟨_,rfl⟩
 rw[hd]
 have HD:=Q0 hd
 have HL:=Q0 hlen
 have HO:=Q0 hrd
 clear hrd hd hlen
 go_enter Tryz.func133,Tryz.ntmps133
 go_wp2_with (go_at_call 131;refine(Gg _ _ l HO.o HL.o).mono ?_;rintro e w2 ⟨v2,rfl,ho,hb⟩;have HO2:=Q0 ho;have HB2:=Q0 hb;clear ho hb)
 go_loopg [5] d (fun kx s5 wr=>∃(i N:Nat) (A:Option Addr) (c:Nat),s5=.slice A N c/\N=l.length+i/\i<=d/\d - i<=kx/\Sc (Below w.heap.size w wr)/\Sc (Own Yx 1 5 w.heap.size wr (.slice A N c) (l++List.replicate i 0)))
 case atStart=>
  obtain⟨A,c,rfl,_,_⟩:=HO2.o.slice
  exact⟨0,_,_,_,rfl,by omega,by omega,by omega,HB2,⟨by rw[List.replicate_zero,List.append_nil];exact HO2.o⟩⟩
 case round=>
  obtain⟨i,N,A,c,rfl,hN,hin,hg,HB,HR⟩:=hrel
  have HNN:=Q0 hN
  have hD:=HD.o
  have hLL:=HL.o
  by_cases hlt:i<d
  ·have hil:(N:Int)<size:=by omega
   have hN1:N<=1000000:=by omega
   have hLe:(l++List.replicate i (0:Int)).length=N:=by rw[List.length_append,List.length_replicate,hN]
   obtain⟨m,hm⟩:∃m,l++List.replicate i (0:Int)=m:=⟨_,rfl⟩
   have HNX:Sc (l++List.replicate (i+1) (0:Int)=m++[0]):=⟨by rw[<-hm,List.replicate_succ',List.append_assoc]⟩
   rw[hm]at HR hLe
   have HML:=Q0 hLe
   have hA2:m.length+1<=maxLen:=by rw[hLe];unfold maxLen;omega
   have hA3:(m.length+1)*1<=140737488355328:=by rw[hLe];omega
   have HA:=Q0 (And.intro hA2 hA3)
   subst hLe
   clear hN hm hD hLL hA2 hA3
   go_wp2_with (at_builtin;(refine wpList_append_own_at _ rfl (.tmp 12) (.tmp 13) 155 rfl w.heap.size 5 i0 (.int .u8 0) 1 1 Tryz.underlying155 hi hz0 hz1 hz2 rfl (by decide) _ m.length (flat Yx m) rfl (HR.o.alloc _) _ 1 1 (Yx 0) rfl rfl ?c1 ?c2 ?c3 ?c4 ?c5 ?_))
   case c2=>rfl
   case c3=>exact HA.o.1
   case c4=>have:=HA.o.2;omega
   case c5=>have:=HB.o.size;simp;omega
   intro v1 w2 h1 h2 h3 h4
   have H1:Sc (Own Yx 1 5 w.heap.size w2 v1 (m++[0])):=⟨by
    unfold Own
    rw[Qc,Qm,List.length_append]
    exact h1⟩
   have H2:Sc (Below w.heap.size w w2):=⟨(HB.o.alloc HB.o.size _).grown h2 (by have:=HB.o.size;simp;omega) (fun k hk=>(HR.o.lt k hk).1)⟩
   obtain⟨A1,c1,rfl,_,_⟩:=H1.o.slice
   rw[List.length_append]at H1 ⊢
   clear h1 h2 h3 h4 HR HB
   go_wp2
   go_roundg (d - (i+1))
   case measure=>omega
   case rel=>exact⟨i+1,_,_,_,rfl,by have:=HNN.o;simp;omega,by omega,Nat.le_refl _,H2,⟨by rw[HNX.o];exact H1.o⟩⟩
  ·obtain rfl:d=i:=by omega
   have hil:¬(N:Int)<size:=by omega
   clear hN hD hLL
   go_wp2
   go_ret
   exact⟨_,rfl,HR.o,HB.o⟩
end
section
set_option maxHeartbeats 2000000
set_option maxRecDepth 4000
def Vt(l:List (Int×Int))(k:Nat):Prop:=∀i x,i<k->l[i]? =some x->0<=x.1/\x.1<1048576/\∀y,0<i->l[i - 1]? =some y->y.1<x.1
def OkP(n:Int)(l:List (Int×Int)):Prop:=0<=n/\n<=1073741824/\l.length<=20/\(0<l.length->n≠0)/\Vt l l.length
theorem Vt.zero(l:List (Int×Int)):Vt l 0:=fun i _ h=>absurd h (Nat.not_lt_zero i)
theorem Vt.succ{l:List (Int×Int)}{k:Nat}{x:Int×Int}(h:Vt l k)(hx:l[k]? =some x)(h0:0<=x.1)(h1:x.1<1048576)(h2:∀y,0<k->l[k - 1]? =some y->y.1<x.1):Vt l (k+1):=fun i y hi hy=>by
 rcases Nat.lt_succ_iff_lt_or_eq.1 hi with hi|hi
 ·exact h i y hi hy
 ·subst hi
  rw[hx]at hy
  injection hy with hy
  subst hy
  exact⟨h0,h1,h2⟩
theorem Vt.rising{l:List (Int×Int)}(h:Vt l l.length):Qd l:=by
 have key:∀(m:List (Int×Int)) (q:List (Int×Int)),l=q++m->Qd m:=by
  intro m
  induction m with
  |nil=>intro q _;exact List.Pairwise.nil
  |cons a m ih=>
   intro q hq
   have hm:=ih (q++[a]) (by rw[hq];simp)
   refine List.pairwise_cons.2 ⟨?_,hm⟩
   intro b hb
   cases m with
   |nil=>simp at hb
   |cons c m=>
    have hlt:a.1<c.1:=by
     have hc:l[q.length+1]? =some c:=by rw[hq,List.getElem?_append_right (by omega)];simp
     have ha:l[q.length]? =some a:=by rw[hq,List.getElem?_append_right (by omega)];simp
     exact(h (q.length+1) c (List.getElem?_eq_some_iff.1 hc).1 hc).2.2 a (by omega) ha
    rcases List.mem_cons.1 hb with rfl|hb
    ·exact hlt
    ·have:=hm.head b hb;omega
 exact key l [] rfl
theorem Gp{B:Nat}{w W:World}(h:Below B w W)(n:Nat):Below B w (W.drewN n):=⟨h.os,h.tape,h.output,h.size,h.block⟩
def RdE(w:World)(v:Value)(l:List (Int×Int)):Prop:=
 (l=[]/\∃A c,v=.slice A 0 c)\/∃b off cap,v=.slice (some ⟨b,off,none⟩) l.length cap/\0<l.length/\l.length<=cap/\∀k x,l[k]? =some x->w.cell? ⟨b,off+k*2,none⟩=some (.int .i64 x.1)/\w.cell? ⟨b,off+k*2+1,none⟩=some (.int .i64 x.2)
theorem RdE.form{w:World}{v:Value}{l:List (Int×Int)}(h:RdE w v l)(hl:0<l.length):∃b off cap,v=.slice (some ⟨b,off,none⟩) l.length cap:=by
 rcases h with ⟨rfl,_⟩|⟨b,off,cap,h,_⟩
 ·simp at hl
 ·exact⟨b,off,cap,h⟩
theorem RdE.Xb{w:World}{b off n cap:Nat}{l:List (Int×Int)}(h:RdE w (.slice (some ⟨b,off,none⟩) n cap) l){k:Nat}{x:Int×Int}(hx:l[k]? =some x):
  w.cell? ⟨b,off+k*2,none⟩=some (.int .i64 x.1)/\w.cell? ⟨b,off+k*2+1,none⟩=some (.int .i64 x.2):=by
 rcases h with ⟨rfl,_⟩|⟨b',off',cap',he,_,_,h⟩
 ·simp at hx
 ·injection he with h1 h2 h3
  injection h1 with h1
  injection h1 with h1 h4
  subst h1 h4
  exact h k x hx
theorem RdE.below{w w':World}{v:Value}{l:List (Int×Int)}(h:RdE w v l)(hb:Below w.heap.size w w'):RdE w' v l:=by
 rcases h with h|⟨b,off,cap,hv,h0,h1,h2⟩
 ·exact .inl h
 ·exact .inr ⟨b,off,cap,hv,h0,h1,fun k x hx=>⟨(hb.cell (World.block_lt_of_cell? _ _ (h2 k x hx).1)).trans (h2 k x hx).1,(hb.cell (World.block_lt_of_cell? _ _ (h2 k x hx).2)).trans (h2 k x hx).2⟩⟩
theorem RdE.alloc{w:World}{v:Value}{l:List (Int×Int)}(h:RdE w v l)(o:Obj):RdE (w.alloc o) v l:=h.below ((Below.refl _ _).alloc (Nat.le_refl _) o)
theorem RdE.slice{w:World}{v:Value}{l:List (Int×Int)}(h:RdE w v l):∃A c,v=.slice A l.length c/\True/\True:=by
 rcases h with ⟨rfl,A,c,rfl⟩|⟨b,off,cap,rfl,_⟩
 ·exact⟨_,_,rfl,trivial,trivial⟩
 ·exact⟨_,_,rfl,trivial,trivial⟩
theorem Own.rdE{w:World}{base:Nat}{e:TypeId}{v:Value}{l:List (Int×Int)}(h:Own Qj 2 e base w v l):RdE w v l:=by
 rcases Nat.eq_zero_or_pos l.length with h0|h0
 ·obtain⟨A,c,rfl,_,_⟩:=h.slice
  rw[h0]
  exact .inl ⟨List.eq_nil_of_length_eq_zero h0,_,_,rfl⟩
 ·obtain⟨g,cap,rfl,_,_,hn,_⟩:=h.form h0
  exact .inr ⟨g,0,cap,rfl,h0,hn,fun k x hx=>by rw[Nat.zero_add];exact h.Xb hx⟩
theorem E2(w:World)(base:Nat)(n:Int)(v:Value)(l:List (Int×Int))(hown:Own Qj 2 227 base w v l)(hlen:l.length<=20):
  Calls Tryz.prog 112 #[Zn n v] w (Q8r (Yk n l) w):=by
 obtain⟨A,cap,rfl,hnc,hcm⟩:=hown.slice
 obtain⟨N,hN⟩:∃N,l.length=N:=⟨_,rfl⟩
 rw[hN]at hown hlen ⊢
 have HN:=Q0 hN
 have hmk:∀W,(Instr.makeSlice 155 (.int .i64 256) (.int .i64 256)).run Tryz.prog W=.ok (.slice (some ⟨W.heap.size,0,none⟩) 256 256) (W.alloc (.cells Q3m 5)):=fun _=>by kernel_rfl
 have HB1:Sc ((w.alloc (.cells #[.int .i64 n,.slice A N cap] 197)).heap[w.heap.size]? =some (.cells #[.int .i64 n,.slice A N cap] 197 (0,0))):=⟨heap_alloc_new _ _⟩
 obtain⟨w1,hw1⟩:∃w1,((w.alloc (.cells #[.int .i64 n,.slice A N cap] 197)).alloc (.cells Q3m 5))=w1:=⟨_,rfl⟩
 have HBW:Sc (Below w.heap.size w w1):=⟨hw1▸((Below.refl _ _).alloc (Nat.le_refl _) _).alloc (by simp) _⟩
 have HC1:Sc (w1.heap[w.heap.size]? =some (.cells #[.int .i64 n,.slice A N cap] 197 (0,0))):=⟨by rw[<-hw1,heap_alloc_old _ _ (Q6 HB1.o),HB1.o]⟩
 have HO1:Sc (Own Qj 2 227 base w1 (.slice A N cap) l):=⟨hw1▸(hown.alloc _).alloc _⟩
 have HZ1:Sc (Own Yx 1 5 w.heap.size w1 (.slice (some ⟨w.heap.size+1,0,none⟩) 256 256) Q2q):=⟨hw1▸by
  have:=(X9q (w.alloc (.cells #[.int .i64 n,.slice A N cap] 197))).mono (b:=w.heap.size) (by simp)
  simpa using this⟩
 clear hown hN hnc hcm HB1
 go_enter Tryz.func112,Tryz.ntmps112
 go_upto_region 2 with fail
 clear hw1
 obtain⟨p0,p1⟩:=Qf HC1.o
 have SK:Sc (∀W,Below w1.heap.size w1 W->W.cell? ⟨w.heap.size,0,none⟩=some (.int .i64 n)/\W.cell? ⟨w.heap.size,1,none⟩=some (.slice A N cap)):=⟨fun W hb=>⟨(hb.cell (World.block_lt_of_cell? _ _ p0)).trans p0,(hb.cell (World.block_lt_of_cell? _ _ p1)).trans p1⟩⟩
 go_wp2_with fail
 refine(Gs _ _ Q2q _ _ 0 4 _ HZ1.o.rd (by omega) (by omega) (by rw[Yy];omega) (by omega) (by omega) (by rw[Yy];omega)).mono ?_
 rintro e w2 ⟨v2,rfl,ho2,hb2⟩
 have HB2:=Q0 hb2
 obtain⟨c0,c1⟩:=SK.o _ hb2
 have HO2:=Q0 ho2.rd
 clear p0 p1 ho2 hb2
 go_wp2_with fail
 refine(Gs _ _ (U7 Q2q 0 4 (IntKind.u64.wrap n)) _ _ 4 2 _ HO2.o (by omega) (by omega) (by rw[Xl,Yy];omega) (by omega) (by omega) (by rw[Xl,Yy];omega)).mono ?_
 rintro e w3 ⟨v3,rfl,ho3,hb3⟩
 have HB3:Sc (Below w1.heap.size w1 w3):=⟨Q5 HB2.o hb3⟩
 have HO3:Sc (Own Yx 1 5 w1.heap.size w3 v3 (Gx n N)):=⟨ho3.mono HB2.o.size⟩
 clear c0 c1 ho3 hb3
 go_wp2
 go_loopg [3,4] N (fun kx s3 s4 wr=>∃(i:Nat),s4=.int .i64 i/\i<=N/\N - i<=kx/\Sc (Own Yx 1 5 w1.heap.size wr s3 (Vx (Gx n N) l i))/\Sc (Below w1.heap.size w1 wr))
 case atStart=>exact⟨0,rfl,by omega,by omega,HO3,HB3⟩
 case round=>
  obtain⟨i,rfl,hi,hg,HR,HB⟩:=hrel
  obtain⟨e0,e1⟩:=SK.o _ HB.o
  by_cases hlt:i<N
  ·obtain⟨x,hx⟩:∃x,l[i]? =some x:=⟨_,List.getElem?_eq_getElem (by rw[HN.o];exact hlt)⟩
   obtain⟨g,cq,he,_,_,_,_⟩:=HO1.o.form (by rw[HN.o];omega)
   injection he with hA hn2 hC
   subst hA
   obtain⟨f0,f1⟩:=(HO1.o.below HB.o).Xb hx
   have hil:(i:Int)<N:=by omega
   have hi20:i<20:=by omega
   have HFX:Sc (Vx (Gx n N) l (i+1)=U7 (U7 (Vx (Gx n N) l i) (16+12*i) 4 (IntKind.u64.wrap x.1)) (20+12*i) 8 (IntKind.u64.wrap x.2)):=⟨by rw[Vx,X4u,List.getD_eq_getElem?_getD,hx];rfl⟩
   have HLF:Sc ((Vx (Gx n N) l i).length=256):=⟨by rw[U2,U4]⟩
   have HX:=Q0 hx
   clear hx hC hn2
   go_wp2_with fail
   refine(Gs _ _ (Vx (Gx n N) l i) _ _ (16+12*i) 4 _ HR.o.rd (by omega) (by omega) (by rw[HLF.o];omega) (by omega) (by omega) (by rw[HLF.o];omega)).mono ?_
   rintro e w4 ⟨v4,rfl,ho4,hb4⟩
   have HB4:Sc (Below w1.heap.size w1 w4):=⟨Q5 HB.o hb4⟩
   have HO4:=Q0 ho4.rd
   obtain⟨g0,g1⟩:=SK.o _ HB4.o
   obtain⟨h0,h1⟩:=(HO1.o.below HB4.o).Xb HX.o
   clear ho4 hb4 e0 e1 f0 f1
   go_wp2_with fail
   refine(Gs _ _ (U7 (Vx (Gx n N) l i) (16+12*i) 4 (IntKind.u64.wrap x.1)) _ _ (20+12*i) 8 _ HO4.o (by omega) (by omega) (by rw[Xl,HLF.o];omega) (by omega) (by omega) (by rw[Xl,HLF.o];omega)).mono ?_
   rintro e w5 ⟨v5,rfl,ho5,hb5⟩
   have HB5:Sc (Below w1.heap.size w1 w5):=⟨Q5 HB4.o hb5⟩
   have HO5:Sc (Own Yx 1 5 w1.heap.size w5 v5 (Vx (Gx n N) l (i+1))):=⟨by rw[HFX.o];exact ho5.mono HB4.o.size⟩
   clear ho5 hb5 g0 g1 h0 h1
   go_wp2
   go_roundg (N - (i+1))
   case measure=>omega
   case rel=>exact⟨i+1,by go_num,by omega,Nat.le_refl _,HO5,HB5⟩
  ·obtain rfl:i=N:=by omega
   go_wp2
   go_ret
   exact⟨_,rfl,by unfold Yk;rw[HN.o];exact HR.o.mono HBW.o.size,HBW.o.trans (HB.o.mono HBW.o.size)⟩
theorem Q2l(w:World)(n:Int)(v:Value)(l:List (Int×Int))(hown:RdE w v l)(hlen:l.length<=1000000):
  Calls Tryz.prog 163 #[Zn n v] w fun e w'=>((OkP n l/\e=.returned (.bool true))\/(¬OkP n l/\e=.returned (.bool false)))/\Below w.heap.size w w':=by
 obtain⟨A,cap,rfl,hnc,hcm⟩:=hown.slice
 obtain⟨N,hN⟩:∃N,l.length=N:=⟨_,rfl⟩
 rw[hN]at hown hlen ⊢
 have HN:=Q0 hN
 have HB1:Sc ((w.alloc (.cells #[.int .i64 n,.slice A N cap] 197)).heap[w.heap.size]? =some (.cells #[.int .i64 n,.slice A N cap] 197 (0,0))):=⟨heap_alloc_new _ _⟩
 obtain⟨b0,b1⟩:=Qf HB1.o
 have HW1:Sc (Below w.heap.size w (w.alloc (.cells #[.int .i64 n,.slice A N cap] 197))):=⟨(Below.refl _ _).alloc (Nat.le_refl _) _⟩
 have HO1:Sc (RdE (w.alloc (.cells #[.int .i64 n,.slice A N cap] 197)) (.slice A N cap) l):=⟨hown.alloc _⟩
 clear hown hN hnc hcm
 by_cases hbad:n<0\/1073741824<n\/20<N\/(0<N/\n=0)
 ·have HNO:Sc (¬OkP n l):=⟨fun⟨h1,h2,h3,h4,_⟩=>by rw[HN.o]at h3 h4;rcases hbad with h|h|h|⟨h,h'⟩<;>omega⟩
  have hb':n<0\/(0<=n/\1073741824<n)\/(0<=n/\n<=1073741824/\20<N)\/(0<=n/\n<=1073741824/\N<=20/\0<N/\n=0):=by omega
  clear hbad
  rcases hb' with h1|⟨h1,h2⟩|⟨h1,h2,h3⟩|⟨h1,h2,h3,h4,rfl⟩
  ·go_enter Tryz.func163,Tryz.ntmps163
   go_wp2
   go_ret
   exact⟨.inr ⟨HNO.o,rfl⟩,HW1.o⟩
  ·go_enter Tryz.func163,Tryz.ntmps163
   go_wp2
   go_ret
   exact⟨.inr ⟨HNO.o,rfl⟩,HW1.o⟩
  ·have h4:(20:Int)<N:=by omega
   go_enter Tryz.func163,Tryz.ntmps163
   go_wp2
   go_ret
   exact⟨.inr ⟨HNO.o,rfl⟩,HW1.o⟩
  ·have h5:(0:Int)<N:=by omega
   have h6:¬(20:Int)<N:=by omega
   go_enter Tryz.func163,Tryz.ntmps163
   go_wp2
   go_ret
   exact⟨.inr ⟨HNO.o,rfl⟩,HW1.o⟩
 ·have h1:0<=n:=by omega
  have h2:n<=1073741824:=by omega
  have h3:N<=20:=by omega
  have h4:N=0\/(0<N/\n≠0):=by omega
  have HH:Sc (0<=n/\n<=1073741824/\l.length<=20/\(0<l.length->n≠0)):=⟨h1,h2,by rw[HN.o];exact h3,fun h=>by rw[HN.o]at h;omega⟩
  have h6:¬(20:Int)<N:=by omega
  clear hbad
  go_enter Tryz.func163,Tryz.ntmps163
  go_upto_region 1 with fail
  go_cut [28] from 4 to 28 (fun s28 wx=>s28=.bool false/\wx=w.alloc (.cells #[.int .i64 n,.slice A N cap] 197))
  case first=>
   rcases h4 with rfl|⟨h5,h7⟩
   ·go_wp2
    go_meet
    case rel=>exact⟨by simp;omega,rfl⟩
   ·have h8:(0:Int)<N:=by omega
    have h9:(n==0)=false:=by simp[h7]
    clear h7
    go_wp2
    go_meet
    case rel=>exact⟨by simp;omega,rfl⟩
  case rest=>
   obtain⟨rfl,rfl⟩:=hcut
   clear h1 h2 h4 h6
   go_wp2
   go_loopg [2,3] N (fun kx s2 s3 wr=>∃i:Nat,s2=.bool false/\s3=.int .i64 i/\i<=N/\N - i<=kx/\Sc (Below (w.alloc (.cells #[.int .i64 n,.slice A N cap] 197)).heap.size (w.alloc (.cells #[.int .i64 n,.slice A N cap] 197)) wr)/\Sc (Vt l i))
   case atStart=>exact⟨0,rfl,rfl,by omega,by omega,⟨Below.refl _ _⟩,⟨Vt.zero l⟩⟩
   case round=>
    obtain⟨i,rfl,rfl,hi,hg,HB,HK⟩:=hrel
    by_cases hlt:i<N
    ·obtain⟨x,hx⟩:∃x,l[i]? =some x:=⟨_,List.getElem?_eq_getElem (by rw[HN.o];exact hlt)⟩
     obtain⟨g,off,cq,he⟩:=HO1.o.form (by rw[HN.o];omega)
     injection he with hA hn2 hC
     subst hA
     have HO2:=Q0 (HO1.o.below HB.o)
     obtain⟨d0,d1⟩:=HO2.o.Xb hx
     have c0:=(HB.o.cell (World.block_lt_of_cell? _ _ b0)).trans b0
     have c1:=(HB.o.cell (World.block_lt_of_cell? _ _ b1)).trans b1
     have l1:=World.block_lt_of_cell? _ _ c1
     have l2:=World.block_lt_of_cell? _ _ d0
     have HX:=Q0 hx
     have hil:(i:Int)<N:=by omega
     have HBW:=Q0 (Q5 HW1.o HB.o)
     clear hx hC hn2 b0 b1
     by_cases hk0:x.1<0
     ·have HNO:Sc (¬OkP n l):=⟨fun⟨_,_,_,_,h⟩=>by have:=(h i x (by rw[HN.o];exact hlt) HX.o).1;omega⟩
      have q1:decide (x.1<0)=true:=by simp[hk0]
      go_upto_region 6 with fail
      go_quiet (fail)
      go_wp2
      go_ret
      exact⟨.inr ⟨HNO.o,rfl⟩,Gp HBW.o _⟩
     ·have q1:decide (x.1<0)=false:=by simp;omega
      by_cases hk1:1048576<=x.1
      ·have HNO:Sc (¬OkP n l):=⟨fun⟨_,_,_,_,h⟩=>by have:=(h i x (by rw[HN.o];exact hlt) HX.o).2.1;omega⟩
       have q2:decide (1048576<=x.1)=true:=by simp[hk1]
       go_upto_region 6 with fail
       go_quiet (fail)
       go_wp2
       go_ret
       exact⟨.inr ⟨HNO.o,rfl⟩,Gp HBW.o _⟩
      ·have q2:decide (1048576<=x.1)=false:=by simp;omega
       rcases Nat.eq_zero_or_pos i with hi0|hi0
       ·have HK1:Sc (Vt l (i+1)):=⟨HK.o.succ HX.o (by omega) (by omega) (fun y h=>by omega)⟩
        subst hi0
        rw[Nat.zero_mul,Nat.add_zero]at d0 d1
        go_upto_region 6 with fail
        go_quiet (fail)
        go_wp2
        go_roundg (N - 1)
        case measure=>omega
        case rel=>exact⟨1,rfl,by go_num,by omega,Nat.le_refl _,⟨Gp HB.o _⟩,HK1⟩
       ·obtain⟨p,rfl⟩:∃p,i=p+1:=⟨i - 1,by omega⟩
        obtain⟨y,hy⟩:∃y,l[p]? =some y:=⟨_,List.getElem?_eq_getElem (by rw[HN.o];omega)⟩
        obtain⟨f0,f1⟩:=HO2.o.Xb hy
        have HY:=Q0 hy
        have hpos:(0:Int)<(p:Int)+1:=by omega
        clear hy hi0
        by_cases hk2:x.1<=y.1
        ·have HNO:Sc (¬OkP n l):=⟨fun⟨_,_,_,_,h⟩=>by have:=(h (p+1) x (by rw[HN.o];exact hlt) HX.o).2.2 y (by omega) HY.o;omega⟩
         have q3:decide (x.1<=y.1)=true:=by simp[hk2]
         go_upto_region 6 with fail
         go_quiet (fail)
         go_wp2
         go_ret
         exact⟨.inr ⟨HNO.o,rfl⟩,Gp HBW.o _⟩
        ·have HK1:Sc (Vt l (p+1+1)):=⟨HK.o.succ HX.o (by omega) (by omega) (fun z _ hz=>by have h:=HY.o;rw[Nat.add_sub_cancel]at hz;rw[hz]at h;injection h with h;subst h;omega)⟩
         have q3:decide (x.1<=y.1)=false:=by simp;omega
         go_upto_region 6 with fail
         go_quiet (fail)
         go_wp2
         go_roundg (N - (p+1+1))
         case measure=>omega
         case rel=>exact⟨p+1+1,rfl,by go_num,by omega,Nat.le_refl _,⟨Gp HB.o _⟩,HK1⟩
    ·obtain rfl:i=N:=by omega
     have HBW:=Q0 (Q5 HW1.o HB.o)
     have HOK:Sc (OkP n l):=⟨HH.o.1,HH.o.2.1,HH.o.2.2.1,HH.o.2.2.2,by rw[HN.o];exact HK.o⟩
     have c1:=(HB.o.cell (World.block_lt_of_cell? _ _ b1)).trans b1
     clear b0 b1
     go_wp2
     go_ret
     exact⟨.inl ⟨HOK.o,rfl⟩,HBW.o⟩
end
end Go.Proofs.YtoapihepdallbaaGreatDoor
