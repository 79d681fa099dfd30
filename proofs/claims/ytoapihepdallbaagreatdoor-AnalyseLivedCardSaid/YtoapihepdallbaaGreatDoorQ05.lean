import Derived.Test.YtoapihepdallbaaGreatDoorP46
import Derived.Test.YtoapihepdallbaaGreatDoorQ03
import Derived.Test.YtoapihepdallbaaGreatDoorQ04
namespace Go.Proofs.YtoapihepdallbaaGreatDoor
open Go.RowKit
theorem Own.Y7n{e:TypeId}{base:Nat}{w:World}{g n cap:Nat}{l:List Q9}(h:Own Xq 10 e base w (.slice (some ⟨g,0,none⟩) n cap) l){k:Nat}{x:Q9}(r:Q9)(hx:l[k]? =some x):
  Own Xq 10 e base ((((((((((w.setCell ⟨g,k*10,none⟩ (.int .i64 r.kind)).setCell ⟨g,k*10+1,none⟩ (.int .i64 r.txn)).setCell ⟨g,k*10+2,none⟩ (.int .i64 r.page)).setCell ⟨g,k*10+3,none⟩ (.int .i64 r.prev)).setCell ⟨g,k*10+4,none⟩ (.int .i64 r.next)).setCell ⟨g,k*10+5,none⟩ (.int .i64 r.key)).setCell ⟨g,k*10+6,none⟩ (.bool r.had)).setCell ⟨g,k*10+7,none⟩ (.bool r.has)).setCell ⟨g,k*10+8,none⟩ (.int .i64 r.old)).setCell ⟨g,k*10+9,none⟩ (.int .i64 r.new)) (.slice (some ⟨g,0,none⟩) n cap) (l.set k r):=by
 have hk:k<l.length:=(List.getElem?_eq_some_iff.1 hx).1
 have hs:∀(l:List Q9) (y:Q9),k<l.length->(l.set k y)[k]? =some y:=fun l y h=>by simp[h]
 have h0:=Own.set (j:=0) (x':={x with kind:=r.kind}) (u:=.int .i64 r.kind) Z4 h hx (by omega) rfl
 have h1:=Own.set (j:=1) (x':={x with kind:=r.kind,txn:=r.txn}) (u:=.int .i64 r.txn) Z4 h0 (hs _ _ hk) (by omega) rfl
 have h2:=Own.set (j:=2) (x':={x with kind:=r.kind,txn:=r.txn,page:=r.page}) (u:=.int .i64 r.page) Z4 h1 (hs _ _ (by simpa using hk)) (by omega) rfl
 have h3:=Own.set (j:=3) (x':={x with kind:=r.kind,txn:=r.txn,page:=r.page,prev:=r.prev}) (u:=.int .i64 r.prev) Z4 h2 (hs _ _ (by simpa using hk)) (by omega) rfl
 have h4:=Own.set (j:=4) (x':={x with kind:=r.kind,txn:=r.txn,page:=r.page,prev:=r.prev,next:=r.next}) (u:=.int .i64 r.next) Z4 h3 (hs _ _ (by simpa using hk)) (by omega) rfl
 have h5:=Own.set (j:=5) (x':={x with kind:=r.kind,txn:=r.txn,page:=r.page,prev:=r.prev,next:=r.next,key:=r.key}) (u:=.int .i64 r.key) Z4 h4 (hs _ _ (by simpa using hk)) (by omega) rfl
 have h6:=Own.set (j:=6) (x':={x with kind:=r.kind,txn:=r.txn,page:=r.page,prev:=r.prev,next:=r.next,key:=r.key,had:=r.had}) (u:=.bool r.had) Z4 h5 (hs _ _ (by simpa using hk)) (by omega) rfl
 have h7:=Own.set (j:=7) (x':={x with kind:=r.kind,txn:=r.txn,page:=r.page,prev:=r.prev,next:=r.next,key:=r.key,had:=r.had,has:=r.has}) (u:=.bool r.has) Z4 h6 (hs _ _ (by simpa using hk)) (by omega) rfl
 have h8:=Own.set (j:=8) (x':={x with kind:=r.kind,txn:=r.txn,page:=r.page,prev:=r.prev,next:=r.next,key:=r.key,had:=r.had,has:=r.has,old:=r.old}) (u:=.int .i64 r.old) Z4 h7 (hs _ _ (by simpa using hk)) (by omega) rfl
 have h9:=Own.set (j:=9) (x':=r) (u:=.int .i64 r.new) Z4 h8 (hs _ _ (by simpa using hk)) (by omega) rfl
 simpa only[List.set_set,Nat.add_zero] using h9
theorem X1z{w:World}{g k:Nat}{u0 u1 u2 u3 u4 u5 u6 u7 u8 u9:Value}:Kp (fun q=>q=g) w ((((((((((w.setCell ⟨g,k*10,none⟩ u0).setCell ⟨g,k*10+1,none⟩ u1).setCell ⟨g,k*10+2,none⟩ u2).setCell ⟨g,k*10+3,none⟩ u3).setCell ⟨g,k*10+4,none⟩ u4).setCell ⟨g,k*10+5,none⟩ u5).setCell ⟨g,k*10+6,none⟩ u6).setCell ⟨g,k*10+7,none⟩ u7).setCell ⟨g,k*10+8,none⟩ u8).setCell ⟨g,k*10+9,none⟩ u9):=
 have s:∀(w':World),Kp (fun q=>q=g) w w'->∀(j:Nat) (u:Value),Kp (fun q=>q=g) w (w'.setCell ⟨g,j,none⟩ u):=fun w' h j u=>h.trans (Kp.setCell w' ⟨g,j,none⟩ u) (fun _ h=> .inl h)
 s _ (s _ (s _ (s _ (s _ (s _ (s _ (s _ (s _ (s _ (Kp.refl _ _) _ _) _ _) _ _) _ _) _ _) _ _) _ _) _ _) _ _) _ _
set_option maxRecDepth 8000 in
set_option maxHeartbeats 8000000 in
theorem Y2m(f:Nat->Addr)(w:World)(a:Option Addr)(len cap:Nat)(zs:List Int)(att:Int)(a2:Option Addr)(len2 cap2:Nat)(zs2:List Int)(hr:Uf .i64 w a len cap zs)(hr2:Uf .i64 w a2 len2 cap2 zs2)(hS:V1 w f):
  Calls Tryz.prog 3 #[.slice a len cap,.int .i64 att,.slice a2 len2 cap2] w fun e w'=>e=.returned (.bool true)/\Below w.heap.size w w':=by
 have HS:=Q0 hS
 have HR:=Q0 hr
 have HR2:=Q0 hr2
 clear hS hr hr2
 go_enter Tryz.func3,Tryz.ntmps3
 go_wp2_with fail
 refine(Q2c f _ HS.o).mono ?_
 rintro e w1 ⟨rfl,hb⟩
 have HB1:=Q0 hb
 clear hb
 by_cases hbig:(500:Int)<len
 ·have hd:decide ((500:Int)<len)=true:=decide_eq_true hbig
  clear hbig
  go_wp2
  go_ret
  exact⟨rfl,HB1.o⟩
 have hd:decide ((500:Int)<len)=false:=decide_eq_false hbig
 have hle:len<=1000:=by omega
 by_cases hbig2:(30:Int)<len2
 ·have hd2:decide ((30:Int)<len2)=true:=decide_eq_true hbig2
  clear hbig hbig2
  go_wp2
  go_ret
  exact⟨rfl,HB1.o⟩
 have hd2:decide ((30:Int)<len2)=false:=decide_eq_false hbig2
 have HLE:=Q0 hle
 clear hbig hbig2 hle
 go_wp2_with fail
 refine(Q8f _ a len cap zs (HR.o.bel HB1.o) HLE.o).mono ?_
 rintro e w2 ⟨v,ck,p,L,rfl,ho,hb,hok⟩
 obtain⟨A,c,rfl,_,_⟩:=ho.slice
 obtain⟨n,hnn⟩:∃n,L.length=n:=⟨_,rfl⟩
 rw[hnn]at ho ⊢
 have HO:=Q0 ho
 have HB2:=Q0 (Q5 HB1.o hb)
 have HK:=Q0 hok
 have HN:=Q0 hnn
 clear ho hb hok hnn hd hd2
 by_cases hmany:(170:Int)<n
 ·have hd:decide ((170:Int)<n)=true:=decide_eq_true hmany
  clear hmany
  go_wp2
  go_ret
  exact⟨rfl,HB2.o⟩
 have hd:decide ((170:Int)<n)=false:=decide_eq_false hmany
 have hn170:n<=170:=by omega
 have HG:=Q0 HK.o.Jo
 have HGL:Sc (Jo L=L):=⟨List.filter_eq_self.2 HG.o⟩
 have HPP:=Q0 (And.intro HK.o.p1 HK.o.p4)
 clear hmany
 go_wp2_with fail
 refine(Q0g f w2 _ _ L 0 (HS.o.bel HB2.o) HO.o (by rw[HN.o];exact hn170) (by omega) (by omega)).mono ?_
 rintro e w3 ⟨lb,lg,rw3,rr3,rfl,hpp,hrr,hb⟩
 rw[HGL.o]at hpp hrr
 have HB3:=Q0 (Q5 HB2.o hb)
 have HO3:=Q0 (HO.o.below hb)
 have HP:=Q0 hpp
 have HRR:=Q0 hrr
 have hll:L.length<=1000:=by rw[HN.o];omega
 have HLL:=Q0 hll
 clear hpp hrr hb HGL HO hll hd
 obtain⟨t,m,d,d',ha0,ha1⟩:=HK.o.ana
 have HA0:=Q0 ha0
 have HA1:=Q0 ha1
 have HLN:Sc (t.length<=1000000/\d'.length<=1000000):=⟨by have:=X1a L 0 p ck;rw[ha1]at this;have h2:=HN.o;simp at this;omega⟩
 clear ha0 ha1 HK
 go_wp2_with fail
 refine(Ui (f:=f) w3 p ck HP.o (HS.o.bel HB3.o) HLL.o (by omega) (by omega)).mono ?_
 rw[HA1.o]
 rintro e w5 ⟨⟨p',b,hp,_⟩|⟨vt,vd,_,rfl,ot,od⟩,hb⟩
 ·cases hp
 obtain⟨A1,n1,c1,rfl⟩:=ot.slice3
 obtain⟨A2,n2,c2,rfl⟩:=od.slice3
 have OT:=Q0 ot
 have OD:=Q0 od
 have HQ5:=Q0 hb
 clear ot od hb
 have HQ6:Sc (Below w3.heap.size w3 (w5.alloc (.cells #[.slice A1 n1 c1,.slice A2 n2 c2,.int .i64 m] 34))):=⟨Q3 HQ5.o _⟩
 have HBa:Sc (Below w5.heap.size w5 (w5.alloc (.cells #[.slice A1 n1 c1,.slice A2 n2 c2,.int .i64 m] 34))):=⟨Q3 (Below.refl _ _) _⟩
 have HZ:=Q0 (heap_alloc_new w5 (.cells #[.slice A1 n1 c1,.slice A2 n2 c2,.int .i64 m] 34))
 go_wp2_with fail
 refine(C4 _ p ck (HRR.o.bel HQ6.o) HLL.o (by omega) (by omega) (by omega) HG.o).mono ?_
 rw[HA1.o]
 rintro e w7 ⟨⟨p',hp',_⟩|⟨ut,ud,_,rfl,ou,ov⟩,hb⟩
 ·cases hp'
 obtain⟨A3,n3,c3,rfl⟩:=ou.slice3
 obtain⟨A4,n4,c4,rfl⟩:=ov.slice3
 have OU:=Q0 ou
 have OV:=Q0 ov
 have HQ57:=Q0 (Q5 HBa.o hb)
 have HZ7:=Q0 (up hb HZ.o)
 have HQ7:=Q0 (Q5 HQ6.o hb)
 clear hb ou ov HQ6 HBa
 obtain⟨w8,hw8⟩:∃w8,(w7.alloc (.cells #[.slice A3 n3 c3,.slice A4 n4 c4,.int .i64 m] 39)).alloc (.cells #[.int .i64 0,.bool false,.int .i64 0] 41)=w8:=⟨_,rfl⟩
 have HQ78:Sc (Below w7.heap.size w7 w8):=⟨by rw[<-hw8];exact Q3 (Q3 (Below.refl _ _) _) _⟩
 have HX17:Sc (w8.heap[w7.heap.size]? =some (.cells #[.slice A3 n3 c3,.slice A4 n4 c4,.int .i64 m] 39 (0,0))):=⟨by rw[<-hw8];exact upa (heap_alloc_new w7 (.cells #[.slice A3 n3 c3,.slice A4 n4 c4,.int .i64 m] 39)) _⟩
 have HX18:Sc (w8.heap[w7.heap.size+1]? =some (.cells #[.int .i64 0,.bool false,.int .i64 0] 41 (0,0))):=⟨by have:=heap_alloc_new (w7.alloc (.cells #[.slice A3 n3 c3,.slice A4 n4 c4,.int .i64 m] 39)) (.cells #[.int .i64 0,.bool false,.int .i64 0] 41);rw[<-hw8];simpa using this⟩
 have HQ8:=Q0 (Q5 HQ7.o HQ78.o)
 have HB8:=Q0 (Q5 HB3.o HQ8.o)
 have HZ8:=Q0 (up HQ78.o HZ7.o)
 have CA:∀X,X=w8->Calls Tryz.prog 8 #[.pointer (some ⟨lb,0,none⟩),.int .i64 p,.int .i64 0] X fun e w'=>Y1e f X.heap.size (none,⟨t,m,d,false⟩) e w'/\Below X.heap.size X w':=by
  rintro X rfl
  rw[<-HA0.o]
  exact Ui (f:=f) X p 0 (HP.o.bel HQ8.o) (HS.o.bel HB8.o) HLL.o (by omega) (by omega)
 have CA2:=Q0 (CA _ hw8)
 have HW8:=Q0 hw8
 clear CA HA0 HA1 hw8
 go_wp2_with fail
 refine CA2.o.mono ?_
 rw[HW8.o]
 rintro e w9 ⟨⟨p',b,hp,_⟩|⟨xt,xd,_,rfl,ot,od⟩,hb⟩
 ·cases hp
 obtain⟨A5,n5,c5,rfl⟩:=ot.slice3
 obtain⟨A6,n6,c6,rfl⟩:=od.slice3
 have OX:=Q0 ot
 have HQ89:=Q0 hb
 clear ot od hb CA2
 obtain⟨w10,hw10⟩:∃w10,w9.alloc (.cells #[.slice A5 n5 c5,.slice A6 n6 c6,.int .i64 m] 34)=w10:=⟨_,rfl⟩
 have HQ910:Sc (Below w9.heap.size w9 w10):=⟨by rw[<-hw10];exact Q3 (Below.refl _ _) _⟩
 have HX20:Sc (w10.heap[w9.heap.size]? =some (.cells #[.slice A5 n5 c5,.slice A6 n6 c6,.int .i64 m] 34 (0,0))):=⟨by rw[<-hw10];exact heap_alloc_new w9 _⟩
 have HQ810:=Q0 (Q5 HQ89.o HQ910.o)
 have HZ10:=Q0 (up HQ810.o HZ8.o)
 have HX17':=Q0 (up HQ810.o HX17.o)
 have HX18':=Q0 (up HQ810.o HX18.o)
 obtain⟨q0,q1,q2⟩:=X7 HZ10.o
 obtain⟨r0,r1,r2⟩:=X7 HX17'.o
 obtain⟨s0,s1,s2,_,_,_,ls⟩:=Q7 HX18'.o
 obtain⟨x0,x1,x2⟩:=X7 HX20.o
 have lq:=Q6 HZ10.o
 have lr:=Q6 HX17'.o
 have lx:=Q6 HX20.o
 rw[<-hw10]at q0 q1 q2 r0 r1 r2 s0 s1 s2 ls x0 x1 x2 lq lr lx
 have HW10:=Q0 hw10
 clear hw10
 go_wp2_with fail
 refine(Q7u _).mono ?_
 clear q0 q1 q2 r0 r1 r2 s0 s1 s2 ls x0 x1 x2 lq lr lx
 rw[HW10.o]
 rintro e w11 ⟨rfl,hb⟩
 have HQ911:=Q0 (Q5 HQ910.o hb)
 have HQ811:=Q0 (Q5 HQ810.o hb)
 have HQ711:=Q0 (Q5 HQ78.o HQ811.o)
 have HQ511:=Q0 (Q5 HQ57.o HQ711.o)
 have HQ311:=Q0 (Q5 HQ7.o HQ711.o)
 have HZ11:=Q0 (up hb HZ10.o)
 have HY11:=Q0 (up hb HX17'.o)
 have HX11:=Q0 (up hb HX20.o)
 clear hb HW10 HW8 HX18' HX17' HX17 HX18 HX20 HZ10 HZ8 HZ7 HZ
 obtain⟨b5,hb5⟩:∃b5,w5.heap.size=b5:=⟨_,rfl⟩
 obtain⟨b7,hb7⟩:∃b7,w7.heap.size=b7:=⟨_,rfl⟩
 obtain⟨b9,hb9⟩:∃b9,w9.heap.size=b9:=⟨_,rfl⟩
 rw[hb5]at HZ11 ⊢
 rw[hb7]at HY11 ⊢
 rw[hb9]at HX11 ⊢
 clear hb5 hb7 hb9
 obtain⟨q0,q1,q2⟩:=X7 HZ11.o
 obtain⟨r0,r1,r2⟩:=X7 HY11.o
 obtain⟨x0,x1,x2⟩:=X7 HX11.o
 have lq:=Q6 HZ11.o
 have lr:=Q6 HY11.o
 have lx:=Q6 HX11.o
 go_wp2_with fail
 refine(O5 w11 _ _ _ _ _ _ _ _ t d' m (OT.o.below HQ511.o) (OD.o.below HQ511.o) (OU.o.below HQ711.o) (OV.o.below HQ711.o) HLN.o.1 HLN.o.2).mono ?_
 clear q0 q1 q2 r0 r1 r2 x0 x1 x2 lq lr lx
 rintro e w12 ⟨rfl,hb⟩
 have HQ512:=Q0 (Q5 HQ511.o hb)
 have HQ912:=Q0 (Q5 HQ911.o hb)
 have HQ312:=Q0 (Q5 HQ311.o hb)
 have HZ12:=Q0 (up hb HZ11.o)
 have HX12:=Q0 (up hb HX11.o)
 clear hb HZ11 HY11 HX11
 obtain⟨q0,q1,q2⟩:=X7 HZ12.o
 obtain⟨x0,x1,x2⟩:=X7 HX12.o
 have lq:=Q6 HZ12.o
 have lx:=Q6 HX12.o
 go_wp2_with fail
 refine(Q0v w12 _ _ _ _ t (OT.o.below HQ512.o) (OX.o.below HQ912.o) HLN.o.1).mono ?_
 clear q0 q1 q2 x0 x1 x2 lq lx
 rintro e w13 ⟨rfl,hb⟩
 have HQ313:=Q0 (Q5 HQ312.o hb)
 have HB13:=Q0 (Q5 HB3.o HQ313.o)
 obtain⟨q0,q1,q2⟩:=X7 (up hb HZ12.o)
 obtain⟨x0,x1,x2⟩:=X7 (up hb HX12.o)
 have lq:=Q6 (up hb HZ12.o)
 have lx:=Q6 (up hb HX12.o)
 have hmm:decide (m=m)=true:=decide_eq_true rfl
 clear hb HZ12 HX12 OT OD OU OV OX
 by_cases h0:n=0
 ·subst h0
  go_wp2
  go_ret
  exact⟨rfl,HB13.o⟩
 have hd:decide ((n:Int)=0)=false:=decide_eq_false (by omega)
 obtain⟨k,hk⟩:∃k:Nat,att % (n:Int)=k:=⟨(att % n).toNat,by have:=Int.emod_nonneg att (show(n:Int)≠0 by omega);omega⟩
 have hkn:k<n:=by have:=Int.emod_lt_of_pos att (show(0:Int)<n by omega);omega
 have HNK:=Q0 hk
 clear hk
 go_wp2_with fail
 refine(Q8g att n k _ HNK.o (by omega) (by omega)).mono ?_
 clear q0 q1 q2 x0 x1 x2 lq lx hmm hd
 rintro e w13' ⟨rfl,rfl⟩
 go_wp2_with fail
 refine(Ev _ _ _ L (HO3.o.below HQ313.o) (by rw[HN.o];omega)).mono ?_
 rintro e w14 ⟨v',rfl,ho,hb⟩
 obtain⟨g,cg,rfl,hg0,hg1,hgc,hgm⟩:=ho.form (by rw[HN.o];omega)
 rw[HN.o]at ho hgc ⊢
 have HO14:=Q0 ho
 have HB14:=Q0 (Q5 HB13.o hb)
 have HG14:=Q0 (And.intro hg0 hg1)
 have HSZ14:=Q0 hb.size
 have HSQ:=Q0 (Xd.made HR2.o HB14.o)
 clear ho hb hg0 hg1
 go_wp2_with fail
 refine(X2a w _ _ a2 len2 cap2 zs2 0 HSQ.o (by omega)).mono ?_
 rintro e w15 ⟨r,k',rfl,hs,_,hkp⟩
 obtain⟨x,hx⟩:∃x,L[k]? =some x:=⟨_,List.getElem?_eq_getElem (by rw[HN.o];exact hkn)⟩
 have HO15:=Q0 ((HO14.o.alloc _).kp hkp (fun q hq he=>by have hq:some g=some q:=hq;injection hq with hq;have:=HG14.o.2;omega))
 have HSZ:Sc (w.heap.size<=g):=⟨by have:=HB13.o.size;have:=HG14.o.1;omega⟩
 have HB15:=Q0 hs.below
 have HT:=Q0 (Own.Y7n HO15.o r hx)
 obtain⟨c0,c1,c2,c3,c4,c5,c6,c7,c8,c9⟩:=HO15.o.Qe hx
 have lg:=World.block_lt_of_cell? _ _ c0
 have u0:=HO15.o.Qr (k*10)
 have u1:=HO15.o.Qr (k*10+1)
 have u2:=HO15.o.Qr (k*10+2)
 have u3:=HO15.o.Qr (k*10+3)
 have u4:=HO15.o.Qr (k*10+4)
 have u5:=HO15.o.Qr (k*10+5)
 have u6:=HO15.o.Qr (k*10+6)
 have u7:=HO15.o.Qr (k*10+7)
 have u8:=HO15.o.Qr (k*10+8)
 have u9:=HO15.o.Qr (k*10+9)
 have hki:(k:Int)<n:=by omega
 clear hs hkp HSQ hx
 go_wp2_with fail
 refine(Q0g f _ _ _ (L.set k r) 0 (HS.o.bel (HB15.o.trans (X1z.below HB15.o.size (fun q hq=>by rw[hq];exact HSZ.o)))) HT.o (by rw[List.length_set,HN.o];exact hn170) (by omega) (by omega)).mono ?_
 clear c0 c1 c2 c3 c4 c5 c6 c7 c8 c9 lg u0 u1 u2 u3 u4 u5 u6 u7 u8 u9
 rintro e w17 ⟨lb2,lg2,rw17,rr17,rfl,hpp,hrr,hb⟩
 have HB17:=Q0 (Q5 (HB15.o.trans (X1z.below HB15.o.size (fun q hq=>by rw[hq];exact HSZ.o))) hb)
 have HP2:=Q0 hpp
 have HRR2:=Q0 hrr
 have HG2:Sc (∀x∈Jo (L.set k r),Qq x=true):=⟨fun x hx=>(List.mem_filter.1 hx).2⟩
 have hgl:(Jo (L.set k r)).length<=1000:=by
  have:=List.length_filter_le Qq (L.set k r)
  rw[List.length_set,HN.o]at this
  show((L.set k r).filter Qq).length<=1000
  omega
 obtain⟨L2,hL2⟩:∃L2,Jo (L.set k r)=L2:=⟨_,rfl⟩
 rw[hL2]at HP2 HRR2 HG2 hgl
 obtain⟨res,hres⟩:∃res,Zc L2 0 p ck=res:=⟨_,rfl⟩
 have HRES:=Q0 hres
 have HLN2:Sc (res.2.t.length<=1000000/\res.2.d.length<=1000000):=⟨by have:=X1a L2 0 p ck;rw[hres]at this;omega⟩
 clear hb hpp hrr hL2 hres HT HO15 HO14 HO3 HG14
 go_wp2_with fail
 refine(Ui (f:=f) w17 p ck HP2.o (HS.o.bel HB17.o) hgl (by omega) (by omega)).mono ?_
 rw[HRES.o]
 rintro e w18 ⟨hout,hb⟩
 have HQ18:=Q0 hb
 clear hb
 rcases hout with ⟨z,b,hp,rfl,hbb,hbc⟩|⟨vt,vd,hp,rfl,ot,od⟩
 ·have HPE:=Q0 hp
  have HBC:=Q0 hbc
  clear hp hbb hbc
  have HQ6:Sc (Below w17.heap.size w17 (w18.alloc (.cells fd0 34))):=⟨Q3 HQ18.o _⟩
  have HBa:Sc (Below w18.heap.size w18 (w18.alloc (.cells fd0 34))):=⟨Q3 (Below.refl _ _) _⟩
  have HZ:=Q0 (heap_alloc_new w18 (.cells fd0 34))
  go_wp2_with fail
  refine(C4 _ p ck (HRR2.o.bel HQ6.o) hgl (by omega) (by omega) (by omega) HG2.o).mono ?_
  rw[HRES.o]
  rintro e w19 ⟨⟨z',hp',rfl⟩|⟨ut,ud,hp',_⟩,hb⟩
  case inr=>have:=HPE.o;rw[hp']at this;cases this
  obtain rfl:z=z':=by have:=HPE.o;rw[hp']at this;injection this with this;exact this.symm
  have HQ57:=Q0 (Q5 HBa.o hb)
  have HZ7:=Q0 (up hb HZ.o)
  have HQ7:=Q0 (Q5 HQ6.o hb)
  have HQ78:Sc (Below w19.heap.size w19 ((w19.alloc (.cells fd0 39)).alloc (.cells #[.int .i64 108,.bool true,.int .i64 z] 41))):=⟨Q3 (Q3 (Below.refl _ _) _) _⟩
  have HX17:=Q0 (upa (heap_alloc_new w19 (.cells fd0 39)) (.cells #[.int .i64 108,.bool true,.int .i64 z] 41))
  have HX18:Sc (((w19.alloc (.cells fd0 39)).alloc (.cells #[.int .i64 108,.bool true,.int .i64 z] 41)).heap[w19.heap.size+1]? =some (.cells #[.int .i64 108,.bool true,.int .i64 z] 41 (0,0))):=⟨by have:=heap_alloc_new (w19.alloc (.cells fd0 39)) (.cells #[.int .i64 108,.bool true,.int .i64 z] 41);simpa using this⟩
  have HZ8:=Q0 (up HQ78.o HZ7.o)
  obtain⟨q0,q1,q2⟩:=X7 HZ8.o
  obtain⟨u0,u1,u2⟩:=X7 HZ7.o
  obtain⟨r0,r1,r2⟩:=X7 HX17.o
  obtain⟨s0,s1,s2,_,_,_,ls⟩:=Q7 HX18.o
  have lq:=Q6 HZ7.o
  have lq1:w18.heap.size<w19.heap.size+1:=by omega
  clear hp' hb
  go_wp2_with fail
  refine(O5 _ 0 0 0 0 _ _ _ _ [] [] 0 Own.nil Own.nil Own.nil Own.nil (by simp) (by simp)).mono ?_
  clear q0 q1 q2 u0 u1 u2 r0 r1 r2 s0 s1 s2 ls lq lq1
  obtain⟨w20,hw8⟩:∃w20,(w19.alloc (.cells fd0 39)).alloc (.cells #[.int .i64 108,.bool true,.int .i64 z] 41)=w20:=⟨_,rfl⟩
  rw[hw8]at HQ78 HX18 ⊢
  obtain⟨b18,hb18⟩:∃b18,w19.heap.size+1=b18:=⟨_,rfl⟩
  rw[hb18]at HX18 ⊢
  rintro e w21 ⟨rfl,hb⟩
  have HQ79:=Q0 (Q5 HQ78.o hb)
  have HQ9:=Q0 (Q5 HQ7.o HQ79.o)
  have HB9:=Q0 (Q5 HB17.o HQ9.o)
  obtain⟨s0,s1,s2,_,_,_,ls⟩:=Q7 (up hb HX18.o)
  clear hb hw8 hb18 HX17 HZ8
  go_wp2_with fail
  refine(X6e f w21 b z (HS.o.bel HB9.o) (up (Q5 HQ57.o HQ79.o) HBC.o)).mono ?_
  rintro e w22 ⟨rfl,hb⟩
  have HB10:=Q0 (Q5 HB9.o hb)
  clear hb s0 s1 s2 ls
  go_wp2
  go_ret
  exact⟨rfl,HB10.o⟩
 ·obtain⟨A1,n1,c1,rfl⟩:=ot.slice3
  obtain⟨A2,n2,c2,rfl⟩:=od.slice3
  have HPE:=Q0 hp
  have OT:=Q0 ot
  have OD:=Q0 od
  clear hp ot od
  have HQ6:Sc (Below w17.heap.size w17 (w18.alloc (.cells #[.slice A1 n1 c1,.slice A2 n2 c2,.int .i64 res.2.m] 34))):=⟨Q3 HQ18.o _⟩
  have HBa:Sc (Below w18.heap.size w18 (w18.alloc (.cells #[.slice A1 n1 c1,.slice A2 n2 c2,.int .i64 res.2.m] 34))):=⟨Q3 (Below.refl _ _) _⟩
  have HZ:=Q0 (heap_alloc_new w18 (.cells #[.slice A1 n1 c1,.slice A2 n2 c2,.int .i64 res.2.m] 34))
  go_wp2_with fail
  refine(C4 _ p ck (HRR2.o.bel HQ6.o) hgl (by omega) (by omega) (by omega) HG2.o).mono ?_
  rw[HRES.o]
  rintro e w19 ⟨⟨p',hp',_⟩|⟨ut,ud,hp',rfl,ou,ov⟩,hb⟩
  case inl=>have:=HPE.o;rw[hp']at this;cases this
  obtain⟨A3,n3,c3,rfl⟩:=ou.slice3
  obtain⟨A4,n4,c4,rfl⟩:=ov.slice3
  have OU:=Q0 ou
  have OV:=Q0 ov
  have HQ57:=Q0 (Q5 HBa.o hb)
  have HZ7:=Q0 (up hb HZ.o)
  have HQ7:=Q0 (Q5 HQ6.o hb)
  have HQ78:Sc (Below w19.heap.size w19 ((w19.alloc (.cells #[.slice A3 n3 c3,.slice A4 n4 c4,.int .i64 res.2.m] 39)).alloc (.cells #[.int .i64 0,.bool false,.int .i64 0] 41))):=⟨Q3 (Q3 (Below.refl _ _) _) _⟩
  have HX17:=Q0 (upa (heap_alloc_new w19 (.cells #[.slice A3 n3 c3,.slice A4 n4 c4,.int .i64 res.2.m] 39)) (.cells #[.int .i64 0,.bool false,.int .i64 0] 41))
  have HX18:Sc (((w19.alloc (.cells #[.slice A3 n3 c3,.slice A4 n4 c4,.int .i64 res.2.m] 39)).alloc (.cells #[.int .i64 0,.bool false,.int .i64 0] 41)).heap[w19.heap.size+1]? =some (.cells #[.int .i64 0,.bool false,.int .i64 0] 41 (0,0))):=⟨by have:=heap_alloc_new (w19.alloc (.cells #[.slice A3 n3 c3,.slice A4 n4 c4,.int .i64 res.2.m] 39)) (.cells #[.int .i64 0,.bool false,.int .i64 0] 41);simpa using this⟩
  have HZ8:=Q0 (up HQ78.o HZ7.o)
  obtain⟨q0,q1,q2⟩:=X7 HZ8.o
  obtain⟨u0,u1,u2⟩:=X7 HZ7.o
  obtain⟨r0,r1,r2⟩:=X7 HX17.o
  obtain⟨s0,s1,s2,_,_,_,ls⟩:=Q7 HX18.o
  have lq:=Q6 HZ7.o
  have lq1:w18.heap.size<w19.heap.size+1:=by omega
  clear hp' hb ou ov
  go_wp2_with fail
  refine(O5 _ _ _ _ _ _ _ _ _ res.2.t res.2.d res.2.m (OT.o.below (Q5 HQ57.o HQ78.o)) (OD.o.below (Q5 HQ57.o HQ78.o)) (OU.o.below HQ78.o) (OV.o.below HQ78.o) HLN2.o.1 HLN2.o.2).mono ?_
  clear q0 q1 q2 u0 u1 u2 r0 r1 r2 s0 s1 s2 ls lq lq1
  obtain⟨w20,hw8⟩:∃w20,(w19.alloc (.cells #[.slice A3 n3 c3,.slice A4 n4 c4,.int .i64 res.2.m] 39)).alloc (.cells #[.int .i64 0,.bool false,.int .i64 0] 41)=w20:=⟨_,rfl⟩
  rw[hw8]at HQ78 HX18 ⊢
  obtain⟨b18,hb18⟩:∃b18,w19.heap.size+1=b18:=⟨_,rfl⟩
  rw[hb18]at HX18 ⊢
  rintro e w21 ⟨rfl,hb⟩
  have HQ79:=Q0 (Q5 HQ78.o hb)
  have HQ9:=Q0 (Q5 HQ7.o HQ79.o)
  have HB9:=Q0 (Q5 HB17.o HQ9.o)
  obtain⟨s0,s1,s2,_,_,_,ls⟩:=Q7 (up hb HX18.o)
  clear hb hw8 hb18 HX17 HZ8
  go_wp2_with fail
  refine(X2z (f:=f) (w:=w21) .ok).mono ?_
  rintro e w22 ⟨rfl,hb⟩
  have HB10:=Q0 (Q5 HB9.o hb)
  clear hb s0 s1 s2 ls
  go_wp2
  go_ret
  exact⟨rfl,HB10.o⟩
end Go.Proofs.YtoapihepdallbaaGreatDoor
