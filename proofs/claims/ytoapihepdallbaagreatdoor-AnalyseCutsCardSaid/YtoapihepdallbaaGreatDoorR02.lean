import Derived.Test.YtoapihepdallbaaGreatDoorR01
namespace Go.Proofs.YtoapihepdallbaaGreatDoor
open Go.RowKit
set_option maxRecDepth 8000 in
set_option maxHeartbeats 8000000 in
theorem Y5h(f:Nat->Addr)(w:World)(a:Option Addr)(len cap:Nat)(zs:List Int)(cut:Int)(hr:Uf .i64 w a len cap zs)(hS:V1 w f):
  Calls Tryz.prog 4 #[.slice a len cap,.int .i64 cut] w fun e w'=>e=.returned (.bool true)/\Below w.heap.size w w':=by
 obtain⟨i0,hi,hz0,hz1,hz2⟩:=info_parts Q0c
 have HS:=Q0 hS
 have HR:=Q0 hr
 clear hS hr
 have hmk:∀W,(Instr.makeSlice 22 (.int .i64 33) (.int .i64 33)).run Tryz.prog W=.ok (.slice (some ⟨W.heap.size,0,none⟩) 33 33) (W.alloc (.cells X7b 3)):=fun _=>by kernel_rfl
 go_enter Tryz.func4,Tryz.ntmps4
 go_wp2_with fail
 refine(Q2c f _ HS.o).mono ?_
 rintro e w1 ⟨rfl,hb⟩
 have HB1:=Q0 hb
 clear hb
 by_cases hbig:(400:Int)<len
 ·have hd:decide ((400:Int)<len)=true:=decide_eq_true hbig
  clear hbig
  go_wp2
  go_ret
  exact⟨rfl,HB1.o⟩
 have hd:decide ((400:Int)<len)=false:=decide_eq_false hbig
 have hle:len<=1000:=by omega
 have HLE:=Q0 hle
 clear hbig hle
 go_wp2_with fail
 refine(Q8f _ a len cap zs (HR.o.bel HB1.o) HLE.o).mono ?_
 rintro e w2 ⟨v,ck,p,L,rfl,ho,hb,hok⟩
 obtain⟨A,c,rfl,hnc,_⟩:=ho.slice
 obtain⟨n,hnn⟩:∃n,L.length=n:=⟨_,rfl⟩
 rw[hnn]at ho hnc ⊢
 have HO:=Q0 ho
 have HB2:=Q0 (Q5 HB1.o hb)
 have HK:=Q0 hok
 have HN:=Q0 hnn
 clear ho hb hok hnn hd
 by_cases hmany:(170:Int)<n
 ·have hd:decide ((170:Int)<n)=true:=decide_eq_true hmany
  clear hmany
  go_wp2
  go_ret
  exact⟨rfl,HB2.o⟩
 have hd:decide ((170:Int)<n)=false:=decide_eq_false hmany
 have hn170:n<=170:=by omega
 obtain⟨k,hk⟩:∃k:Nat,cut % ((n:Int)+1)=k:=⟨(cut % ((n:Int)+1)).toNat,by have:=Int.emod_nonneg cut (show(n:Int)+1≠0 by omega);omega⟩
 have hkn:k<=n:=by have:=Int.emod_lt_of_pos cut (show(0:Int)<(n:Int)+1 by omega);omega
 have HNK:=Q0 hk
 clear hk hmany
 go_upto_region 9 with fail
 go_cut [6] from 41 to 47 (fun s6 wx=>s6=.slice A k c/\wx=w2)
 case first=>
  go_wp2_with fail
  refine(Q8g cut _ k _ HNK.o (by omega) (by omega)).mono ?_
  rintro e w3 ⟨rfl,rfl⟩
  have HZ:=HO.o.zero
  rcases HZ with ⟨rfl,rfl,rfl,_⟩|⟨g,rfl⟩
  ·obtain rfl:k=0:=by omega
   go_wp2_with fail
   go_meet
   case rel=>exact⟨rfl,rfl⟩
  ·have hkc:(k:Int)<=c:=by omega
   have hk0:(0:Int)<=k:=by omega
   go_wp2_with fail
   go_meet
   case rel=>exact⟨rfl,rfl⟩
 case rest=>
 obtain⟨rfl,rfl⟩:=hcut
 obtain⟨w2,rfl⟩:∃w2,w2=wc:=⟨_,rfl⟩
 obtain⟨K,hK⟩:∃K,L.take k=K:=⟨_,rfl⟩
 have HOK:Sc (Own Xq 10 49 w1.heap.size w2 (.slice A k c) K):=⟨by
  rcases HO.o.zero with ⟨rfl,rfl,rfl,rfl⟩|⟨g,rfl⟩
  ·obtain rfl:k=0:=by omega
   rw[<-hK];exact Own.nil
  ·rw[<-hK];exact HO.o.take Z4 hkn⟩
 have HKL:Sc (K.length=k):=⟨by rw[<-hK,List.length_take,HN.o];omega⟩
 have HG:Sc (∀r∈K,Qq r=true):=⟨fun r hr=>HK.o.Jo r (List.mem_of_mem_take (by rw[hK];exact hr))⟩
 have HGL:Sc (Jo K=K):=⟨List.filter_eq_self.2 HG.o⟩
 obtain⟨t,m,d,ha0,hct⟩:=HK.o.cut k
 rw[hK]at ha0 hct
 have HA0:=Q0 ha0
 have HCT:=Q0 hct
 have HPP:=Q0 (And.intro HK.o.p1 HK.o.p4)
 have hk170:k<=170:=by omega
 clear ha0 hct hK HK HO HN HNK hd hn170
 go_wp2_with fail
 refine(Q0g f w2 _ _ K 0 (HS.o.bel HB2.o) HOK.o (by rw[HKL.o];exact hk170) (by omega) (by omega)).mono ?_
 rintro e w3 ⟨lb,lg,rw3,rr3,rfl,hpp,_,hb⟩
 rw[HGL.o]at hpp
 have HB3:=Q0 (Q5 HB2.o hb)
 have HO3:=Q0 (HOK.o.below hb)
 have HP:=Q0 hpp
 clear hpp hb HGL HOK
 go_wp2_with fail
 refine(Ui (f:=f) w3 p 0 HP.o (HS.o.bel HB3.o) (by rw[HKL.o];omega) (by omega) (by omega)).mono ?_
 rw[HA0.o]
 rintro e w5 ⟨⟨p',b,hp,_⟩|⟨vt,vd,_,rfl,ot,od⟩,hb⟩
 ·cases hp
 obtain⟨A1,n1,c1,rfl⟩:=ot.slice3
 obtain⟨A2,n2,c2,rfl⟩:=od.slice3
 have hn1:=ot.len
 have hn2:=od.len
 have HTN:=Q0 hn1
 have HDN:=Q0 hn2
 have OT:=Q0 ot
 have OD:=Q0 od
 have HO5:=Q0 (HO3.o.below hb)
 have HB5:=Q0 (Q5 HB3.o hb)
 have HZ5:=Q0 (heap_alloc_new w5 (.cells #[.slice A1 n1 c1,.slice A2 n2 c2,.int .i64 m] 34))
 have HQ56:Sc (Below w5.heap.size w5 (w5.alloc (.cells #[.slice A1 n1 c1,.slice A2 n2 c2,.int .i64 m] 34))):=⟨Q3 (Below.refl _ _) _⟩
 obtain⟨w6,hw6⟩:∃w6,w5.alloc (.cells #[.slice A1 n1 c1,.slice A2 n2 c2,.int .i64 m] 34)=w6:=⟨_,rfl⟩
 have HO6:Sc (Own Xq 10 49 w1.heap.size w6 (.slice A k c) K):=⟨by rw[<-hw6];exact HO5.o.below HQ56.o⟩
 have HB6:Sc (Below w.heap.size w w6):=⟨by rw[<-hw6];exact Q3 HB5.o _⟩
 have OT6:Sc (Own Qg 4 58 w3.heap.size w6 (.slice A1 n1 c1) t):=⟨by rw[<-hw6];exact OT.o.below HQ56.o⟩
 have OD6:Sc (Own Qj 2 60 w3.heap.size w6 (.slice A2 n2 c2) d):=⟨by rw[<-hw6];exact OD.o.below HQ56.o⟩
 have HF6:Sc (w6.heap[w5.heap.size]? =some (.cells #[.slice A1 n1 c1,.slice A2 n2 c2,.int .i64 m] 34 (0,0))):=⟨by rw[<-hw6];exact HZ5.o⟩
 have hsz6:w5.heap.size+1=w6.heap.size:=by rw[<-hw6];simp
 clear ot od hb hn1 hn2 HO3 HO5 OT OD HZ5 HQ56 HP HA0
 go_upto_region 14 with fail
 try rw[hw6]
 obtain⟨bf,hbf⟩:∃bf,w5.heap.size=bf:=⟨_,rfl⟩
 rw[hbf]at HF6 ⊢
 have hfb:bf<w6.heap.size:=by omega
 clear hw6 hsz6 hbf
 go_wp2_with fail
 go_loopg [14,15,17] k (fun kx s14 s15 s17 wr=>∃i:Nat,s17=.int .i64 i/\i<=k/\k - i<=kx/\s15=.int .i64 (Jk (K.take i))/\Sc (Below w6.heap.size w6 wr)/\Sc (Own X6 1 3 (w6.heap.size+1) wr s14 (Zz (K.take i)))/\Sc (Own X6 1 3 w6.heap.size wr (.slice (some ⟨w6.heap.size,0,none⟩) 33 33) (Uq (K.take i))))
 case atStart=>exact⟨0,rfl,Nat.zero_le _,by omega,rfl,⟨Q3 (Below.refl _ _) _⟩,⟨Own.nil⟩,⟨Y1c w6⟩⟩
 case round=>
  obtain⟨i,rfl,hik,hkx,rfl,HBR,HOR,HDR⟩:=hrel
  obtain⟨wo,rfl⟩:∃wo,wo=wr:=⟨_,rfl⟩
  obtain⟨A4,n4,c4,rfl⟩:=HOR.o.slice3
  have hn4:=HOR.o.len
  by_cases hlt:i<k
  ·obtain⟨x,hx⟩:∃x,K[i]? =some x:=⟨_,List.getElem?_eq_getElem (by rw[HKL.o];exact hlt)⟩
   obtain⟨g,c',he,_,_,_,_⟩:=HO6.o.form (by rw[HKL.o];omega)
   injection he with hA hj1 hj2
   subst hA
   clear hj1 hj2
   obtain⟨d0,d1,d2,d3,d4,d5,d6,d7,d8,d9⟩:=(HO6.o.below HBR.o).Qe hx
   have hd:decide ((i:Int)<k)=true:=decide_eq_true (by omega)
   have hik':(i:Int)<k:=by omega
   have HX:=Q0 hx
   have hiw:IntKind.i64.wrap ((i:Int)+1)=(i:Int)+1:=IntWalk.i64_in _ ⟨by omega,by omega⟩
   have HMS:Sc (k - (i+1)<gk):=⟨by omega⟩
   have HTL:Sc ((K.take i).length=i):=⟨by rw[List.length_take,HKL.o];omega⟩
   obtain⟨w7,hw7⟩:∃w7,wo.alloc (.cells (Qe x) 49)=w7:=⟨_,rfl⟩
   obtain⟨b7,hb7⟩:∃b7,wo.heap.size=b7:=⟨_,rfl⟩
   have HB7:Sc (Below wo.heap.size wo w7):=⟨by rw[<-hw7];exact Q3 (Below.refl _ _) _⟩
   have HN7:Sc (w7.heap[b7]? =some (.cells (Qe x) 49 (0,0))):=⟨by rw[<-hw7,<-hb7];exact heap_alloc_new _ _⟩
   have H67:=Q0 (Q5 HBR.o HB7.o)
   have HO7:=Q0 (HOR.o.below HB7.o)
   have HD7:=Q0 (HDR.o.below HB7.o)
   have HGW:Sc (w6.heap.size+1<=w7.heap.size):=⟨by have h1:=(HDR.o.lt w6.heap.size rfl).2;have h2:=HB7.o.size;omega⟩
   clear hx
   go_upto_region 23 with fail
   try rw[hw7]
   try rw[hb7]
   clear hw7 hb7 HB7 d0 d1 d2 d3 d4 d5 d6 d7 d8 d9
   obtain⟨o,ho⟩:∃o,Zz (K.take i)=o:=⟨_,rfl⟩
   obtain⟨mm,hmm⟩:∃mm,Jk (K.take i)=mm:=⟨_,rfl⟩
   have hol:o.length<=170:=by rw[<-ho];exact Nat.le_trans (Q4t _) (by rw[List.length_take];omega)
   rw[hmm]
   rw[ho]at hn4 HO7
   subst hn4
   have HOE:=Q0 ho
   have HME:=Q0 hmm
   clear ho hmm HOR HDR HBR
   obtain⟨c0,c1,c2,_,_,_,_,_,_,_⟩:=Qb HN7.o
   have lc:=Q6 HN7.o
   by_cases h1:x.kind=1
   ·obtain⟨e1,e2,e3⟩:=Y7j HX.o h1
    rw[HOE.o]at e1
    rw[HME.o]at e2
    have HE1:=Q0 e1
    have HE2:=Q0 e2
    have HE3:=Q0 e3
    rw[h1]at c0
    have CP:∀X,Below w7.heap.size w7 X->Calls Tryz.prog 17 #[.slice A4 o.length c4] X fun e w'=>∃v',e=.returned v'/\Own X6 1 3 w7.heap.size w' v' o/\Below w7.heap.size w7 w'/\Below X.heap.size X w':=fun X hX=>(Vj X _ _ o (HO7.o.below hX) (by omega)).mono fun e w' ⟨vt,he,ho,hb⟩=>⟨vt,he,ho.mono hX.size,hX.trans (hb.mono hX.size),hb⟩
    have HA2:Sc (o.length+1<=maxLen):=⟨by unfold maxLen;omega⟩
    have HA3:Sc ((o.length+1)*8<=140737488355328):=⟨by omega⟩
    have HQ:Sc (Below w7.heap.size w7 w7):=⟨Below.refl _ _⟩
    obtain⟨q,hq0⟩:∃q,x.txn=q:=⟨_,rfl⟩
    rw[hq0]at c1 HE1 HE2
    have HQ0:=Q0 hq0
    have HQA:Sc (Below w7.heap.size w7 (w7.alloc (.cells (X6 q).toArray 3))):=⟨Q3 (Below.refl _ _) _⟩
    clear hq0 e1 e2 e3 h1 c2
    go_upto_region 25 with fail
    go_cut [14] from 65 to 126 (fun s14 wx=>∃ga ca,s14=.slice (some ⟨ga,0,none⟩) (o.length+1) ca/\Sc (Below w7.heap.size w7 wx)/\Sc (Own X6 1 3 w7.heap.size wx (.slice (some ⟨ga,0,none⟩) (o.length+1) ca) (o++[q])))
    case first=>
     go_region_law (first
      |(go_simp;go_at_call 17;refine(CP _ (by first|exact HQ.o|exact HQ.o.drew|exact HQA.o|exact HQA.o.drew)).mono ?_;rintro e wt ⟨v',rfl,ho,hq,hb⟩;obtain⟨A',n',k',rfl⟩:=ho.slice3;have hn':=ho.len;subst hn';(first|(have HSRC:Sc (wt.heap[w7.heap.size]? =some (.cells (X6 q).toArray 3 (0,0))):=⟨(hb.block w7.heap.size (by simp)).trans (heap_alloc_new w7 (.cells (X6 q).toArray 3))⟩)|skip);have HVT:=Q0 ho;have HQT:=Q0 hq;have c1:=(hq.cell lc).trans c1;clear ho hq hb)
      |((refine step_append_lies _ (by rfl) (.tmp 80) (.tmp 83) 22 (by rfl) w7.heap.size 3 i0 (.int .i64 0) 1 8 Tryz.underlying22 hi hz0 hz1 hz2 rfl (by decide) _ o.length (flat X6 o) (by rfl) HVT.o ⟨w7.heap.size,0,none⟩ 1 1 (X6 q) (by rfl) (by rfl) (World.news_of_block HSRC.o) (Jm.one _) Nat.one_pos HA2.o HA3.o HQT.o.size wt.heap.size rfl ?_);intro ga ca wa g1 g2 g3 g4;have HLL:Sc (Below w7.heap.size w7 wa):=⟨Ct HQT.o g2 (fun q hq=>(HVT.o.lt q hq).1)⟩;have HOW:Sc (Own X6 1 3 w7.heap.size wa (.slice (some ⟨ga,0,none⟩) (o.length+1) ca) (o++[q])):=⟨Own.Qv g1 (by simp) (by rw[Qc,Qm])⟩;clear g1 g2 g3 g4)
      |((refine step_append_lies _ (by rfl) (.tmp 80) (.tmp 83) 22 (by rfl) w7.heap.size 3 i0 (.int .i64 0) 1 8 Tryz.underlying22 hi hz0 hz1 hz2 rfl (by decide) _ o.length (flat X6 o) (by rfl) (HVT.o.alloc _) ⟨wt.heap.size,0,none⟩ 1 1 (X6 q) (by rfl) (by rfl) (World.news_of_block (heap_alloc_new wt (.cells (X6 q).toArray 3))) (Jm.one _) Nat.one_pos HA2.o HA3.o (by have:=HQT.o.size;simp;omega) (wt.heap.size+1) (by simp) ?_);intro ga ca wa g1 g2 g3 g4;have HLL:Sc (Below w7.heap.size w7 wa):=⟨Ct (Q3 HQT.o (.cells (X6 q).toArray 3)) g2 (fun q hq=>(HVT.o.lt q hq).1)⟩;have HOW:Sc (Own X6 1 3 w7.heap.size wa (.slice (some ⟨ga,0,none⟩) (o.length+1) ca) (o++[q])):=⟨Own.Qv g1 (by simp) (by rw[Qc,Qm])⟩;clear g1 g2 g3 g4))
     all_goals
      go_wp2_with fail
      go_meet
      case rel=>exact⟨_,_,rfl,HLL,HOW⟩
    case rest=>
     obtain⟨ga,ca,rfl,HB8,HO8⟩:=hcut
     obtain⟨w8,rfl⟩:∃w8,w8=wc:=⟨_,rfl⟩
     clear c0 c1 lc CP HA2 HA3 HQ HQA
     obtain⟨c0,c1,_,_,_,_,_,_,_,_⟩:=Qb (up HB8.o HN7.o)
     have lc:=Q6 (up HB8.o HN7.o)
     rw[HQ0.o]at c1
     rcases Int.lt_or_le mm q with hmq|hmq
     ·have f1:decide (mm<q)=true:=decide_eq_true hmq
      have f2:¬q<mm:=by omega
      have f3:decide (q<mm)=false:=decide_eq_false f2
      have HM:Sc (max mm q=q):=⟨by omega⟩
      go_wp2
      go_roundg (k - (i+1))
      case measure=>exact HMS.o
      case rel=>exact⟨i+1,by go_num,by omega,Nat.le_refl _,by rw[HE2.o,HM.o],⟨Q5 H67.o HB8.o⟩,⟨by rw[HE1.o];exact HO8.o.mono HGW.o⟩,⟨by rw[HE3.o];exact HD7.o.below HB8.o⟩⟩
     ·have f1:¬mm<q:=by omega
      have f2:decide (mm<q)=false:=decide_eq_false f1
      have HM:Sc (max mm q=mm):=⟨by omega⟩
      go_wp2
      go_roundg (k - (i+1))
      case measure=>exact HMS.o
      case rel=>exact⟨i+1,by go_num,by omega,Nat.le_refl _,by rw[HE2.o,HM.o],⟨Q5 H67.o HB8.o⟩,⟨by rw[HE1.o];exact HO8.o.mono HGW.o⟩,⟨by rw[HE3.o];exact HD7.o.below HB8.o⟩⟩
   by_cases h6:x.kind=6
   ·obtain⟨e1,e2,e3⟩:=Y7k HX.o h6
    rw[HOE.o]at e1
    rw[HME.o]at e2
    have HE1:=Q0 e1
    have HE2:=Q0 e2
    have HE3:=Q0 e3
    rw[h6]at c0
    obtain⟨q,hq0⟩:∃q,x.txn=q:=⟨_,rfl⟩
    rw[hq0]at c1 HE1
    have HQ0:=Q0 hq0
    clear hq0 e1 e2 e3 h1 h6 c2
    go_wp2_with fail
    go_loopg [19,20] o.length (fun kx s19 s20 wi=>∃j:Nat,s20=.int .i64 j/\j<=o.length/\o.length - j<=kx/\Sc (Below w7.heap.size w7 wi)/\Sc (Own X6 1 3 w7.heap.size wi s19 ((o.take j).filter fun z=>decide (z≠q))))
    case atStart=>exact⟨0,rfl,Nat.zero_le _,by omega,⟨Below.refl _ _⟩,⟨Own.nil⟩⟩
    case round=>
     obtain⟨j,rfl,hjo,hjk,HBI,HRI⟩:=hrel
     clear c0 c1 lc
     obtain⟨c0,c1,_,_,_,_,_,_,_,_⟩:=Qb (up HBI.o HN7.o)
     have lc:=Q6 (up HBI.o HN7.o)
     rw[HQ0.o]at c1
     by_cases hlj:j<o.length
     ·obtain⟨z,hz⟩:∃z,o[j]? =some z:=⟨_,List.getElem?_eq_getElem hlj⟩
      obtain⟨g4,c4',he,_,_,_,_⟩:=HO7.o.form (by omega)
      injection he with hA hj1 hj2
      subst hA
      clear hj1 hj2
      have d0:=(HO7.o.below HBI.o).Uw hz
      have hil:(j:Int)<o.length:=by omega
      have hd2:decide ((j:Int)<o.length)=true:=decide_eq_true hil
      have HF:=Q0 (Q9j (p:=fun z:Int=>decide (z≠q)) hz)
      obtain⟨fl,hfl⟩:∃fl,(o.take j).filter (fun z:Int=>decide (z≠q))=fl:=⟨_,rfl⟩
      have HFL:Sc (fl.length<=170):=⟨by rw[<-hfl];exact Nat.le_trans (List.length_filter_le _ _) (by rw[List.length_take];omega)⟩
      rw[hfl]at HF HRI
      clear hz hfl
      by_cases hs:z=q
      ·have e1:(z==q)=true:=by simp[hs]
       have e2:(z !=q)=false:=by simp[hs]
       have e3:decide (z=q)=true:=decide_eq_true hs
       have HF2:Sc ((o.take (j+1)).filter (fun z:Int=>decide (z≠q))=fl):=⟨by rw[HF.o,if_neg (by simp[hs])]⟩
       clear hs
       go_upto_region 32 with fail
       go_quiet (fail)
       go_wp2
       go_roundg (o.length - (j+1))
       case measure=>omega
       case rel=>exact⟨j+1,by go_num,by omega,Nat.le_refl _,⟨X0 HBI.o _⟩,⟨by rw[HF2.o];exact HRI.o.drewN _⟩⟩
      ·have e1:(z==q)=false:=by simp[hs]
       have e2:(z !=q)=true:=by simp[hs]
       have e3:decide (z=q)=false:=decide_eq_false hs
       have HF2:Sc ((o.take (j+1)).filter (fun z:Int=>decide (z≠q))=fl++[z]):=⟨by rw[HF.o,if_pos (by simp[hs])]⟩
       clear hs
       go_upto_region 32 with fail
       go_quiet (fail)
       go_wp2_with (at_builtin;go_loud (refine wpList_append_own_at _ rfl (.tmp 104) (.tmp 109) 22 rfl w7.heap.size 3 i0 (.int .i64 0) 1 8 Tryz.underlying22 hi hz0 hz1 hz2 rfl (by decide) _ fl.length (flat X6 fl) rfl ((HRI.o.drewN _).alloc _) _ 1 1 (X6 z) rfl rfl ?c1 ?c2 ?c3 ?c4 ?c5 ?_))
       case c1=>exact World.news_of_block (heap_alloc_new _ _)
       case c2=>exact Jm.one z
       case c3=>have:=HFL.o;unfold maxLen;omega
       case c4=>have:=HFL.o;omega
       case c5=>have:=HBI.o.size;simp;omega
       intro v1 wj g1 g2 g3 g4
       have H1:Sc (Own X6 1 3 w7.heap.size wj v1 ((o.take (j+1)).filter (fun z:Int=>decide (z≠q)))):=⟨by
        rw[HF2.o]
        unfold Own
        rw[Qc,Qm,List.length_append]
        exact g1⟩
       have H2:Sc (Below w7.heap.size w7 wj):=⟨((X0 HBI.o _).alloc HBI.o.size _).grown g2 (by have:=HBI.o.size;simp;omega) (fun k hk=>(HRI.o.lt k hk).1)⟩
       clear g1 g2 g3 g4 HRI HBI d0 c0 c1 lc
       go_wp2
       go_roundg (o.length - (j+1))
       case measure=>omega
       case rel=>exact⟨j+1,by go_num,by omega,Nat.le_refl _,H2,H1⟩
     ·obtain rfl:j=o.length:=by omega
      have HE:Sc ((o.take o.length).filter (fun z:Int=>decide (z≠q))=o.filter (fun z:Int=>decide (z≠q))):=⟨by rw[List.take_length]⟩
      have hd2:decide ((o.length:Int)<o.length)=false:=decide_eq_false (by omega)
      obtain⟨B1,n1',q1,rfl⟩:=HRI.o.slice3
      go_wp2
      go_roundg (k - (i+1))
      case measure=>exact HMS.o
      case rel=>exact⟨i+1,by go_num,by omega,Nat.le_refl _,by rw[HE2.o],⟨Q5 H67.o HBI.o⟩,⟨by rw[HE1.o,<-HE.o];exact HRI.o.mono HGW.o⟩,⟨by rw[HE3.o];exact HD7.o.below HBI.o⟩⟩
   have hx1:(x.kind==1)=false:=by simp[h1]
   have hx1':decide (x.kind=1)=false:=decide_eq_false h1
   have hx6:(x.kind==6)=false:=by simp[h6]
   have hx6':decide (x.kind=6)=false:=decide_eq_false h6
   by_cases h23:x.kind=2\/x.kind=3
   ·obtain⟨p1,p2⟩:=Q2h (HG.o x (List.mem_of_getElem? HX.o)) h23
    obtain⟨pq,hpq⟩:∃pq:Nat,x.page=pq:=⟨x.page.toNat,by omega⟩
    rw[hpq]at c2 p1 p2
    have hq33:pq<33:=by omega
    have r0:=HD7.o.Uw (Dh (K.take i) hq33)
    have rf:=HD7.o.Qr pq
    have lr:=(HD7.o.lt w6.heap.size rfl).2
    have p3:(pq:Int)<33:=by omega
    have p4:(0:Int)<=pq:=by omega
    by_cases hz:Xa (K.take i) (pq:Int)=0
    ·obtain⟨e1,e2,e3⟩:=Y2z HX.o h23 hq33 hpq hz HTL.o
     rw[HOE.o]at e1
     rw[HME.o]at e2
     have HE1:=Q0 e1
     have HE2:=Q0 e2
     have HE3:=Q0 e3
     rw[hz]at r0
     clear e1 e2 e3 hz h1 h6
     rcases h23 with h2|h3
     ·rw[h2]at c0
      clear hx1 hx1' hx6 hx6' h2
      go_wp2
      go_roundg (k - (i+1))
      case measure=>exact HMS.o
      case rel=>exact⟨i+1,by go_num,by omega,Nat.le_refl _,by rw[HE2.o],⟨H67.o.setCell (Nat.le_refl _) _⟩,⟨by rw[HE1.o];exact HO7.o.kp (Kp.setCell _ _ _) (fun q hq he=>by have h1:=(HO7.o.lt q hq).1;have he:q=w6.heap.size:=he;omega)⟩,⟨by rw[HE3.o];exact HD7.o.Y8i _ (Dh _ hq33)⟩⟩
     ·rw[h3]at c0
      clear hx1 hx1' hx6 hx6' h3
      go_wp2
      go_roundg (k - (i+1))
      case measure=>exact HMS.o
      case rel=>exact⟨i+1,by go_num,by omega,Nat.le_refl _,by rw[HE2.o],⟨H67.o.setCell (Nat.le_refl _) _⟩,⟨by rw[HE1.o];exact HO7.o.kp (Kp.setCell _ _ _) (fun q hq he=>by have h1:=(HO7.o.lt q hq).1;have he:q=w6.heap.size:=he;omega)⟩,⟨by rw[HE3.o];exact HD7.o.Y8i _ (Dh _ hq33)⟩⟩
    ·obtain⟨e1,e2,e3⟩:=Y0e HX.o h23 (by rw[hpq];exact hz)
     rw[HOE.o]at e1
     rw[HME.o]at e2
     have HE1:=Q0 e1
     have HE2:=Q0 e2
     have HE3:=Q0 e3
     obtain⟨zz,hzz⟩:∃zz,Xa (K.take i) (pq:Int)=zz:=⟨_,rfl⟩
     rw[hzz]at r0 hz
     have z1:(zz==0)=false:=by simp[hz]
     have z2:decide (zz=0)=false:=decide_eq_false hz
     clear e1 e2 e3 hzz h1 h6
     rcases h23 with h2|h3
     ·rw[h2]at c0
      clear hx1 hx1' hx6 hx6' h2
      go_wp2
      go_roundg (k - (i+1))
      case measure=>exact HMS.o
      case rel=>exact⟨i+1,by go_num,by omega,Nat.le_refl _,by rw[HE2.o],H67,⟨by rw[HE1.o];exact HO7.o⟩,⟨by rw[HE3.o];exact HD7.o⟩⟩
     ·rw[h3]at c0
      clear hx1 hx1' hx6 hx6' h3
      go_wp2
      go_roundg (k - (i+1))
      case measure=>exact HMS.o
      case rel=>exact⟨i+1,by go_num,by omega,Nat.le_refl _,by rw[HE2.o],H67,⟨by rw[HE1.o];exact HO7.o⟩,⟨by rw[HE3.o];exact HD7.o⟩⟩
   ·obtain⟨e1,e2,e3⟩:=Y0d HX.o h1 h6 h23
    rw[HOE.o]at e1
    rw[HME.o]at e2
    have HE1:=Q0 e1
    have HE2:=Q0 e2
    have HE3:=Q0 e3
    have h2:x.kind≠2:=fun h=>h23 (.inl h)
    have h3:x.kind≠3:=fun h=>h23 (.inr h)
    have hx2:(x.kind==2)=false:=by simp[h2]
    have hx2':decide (x.kind=2)=false:=decide_eq_false h2
    have hx3:(x.kind==3)=false:=by simp[h3]
    have hx3':decide (x.kind=3)=false:=decide_eq_false h3
    clear e1 e2 e3
    go_wp2
    go_roundg (k - (i+1))
    case measure=>exact HMS.o
    case rel=>exact⟨i+1,by go_num,by omega,Nat.le_refl _,by rw[HE2.o],H67,⟨by rw[HE1.o];exact HO7.o⟩,⟨by rw[HE3.o];exact HD7.o⟩⟩
  ·obtain rfl:i=k:=by omega
   have hKT:K.take i=K:=by rw[<-HKL.o,List.take_length]
   have hmo:Jk (K.take i)=m:=by rw[hKT];exact HCT.o.most.symm
   rw[hKT]at hn4 HOR HDR
   have hnl:n4=n1:=by rw[hn4,HTN.o,<-HCT.o.open_,List.length_map]
   subst hnl
   have hd:decide ((i:Int)<i)=false:=decide_eq_false (by omega)
   have HB9:=Q0 (Q5 HB6.o HBR.o)
   have HF9:=Q0 (up HBR.o HF6.o)
   have OT9:=Q0 (OT6.o.below HBR.o)
   have OD9:=Q0 (OD6.o.below HBR.o)
   have ht170:n4<=170:=by rw[hn4];exact Nat.le_trans (Q4t _) (by rw[HKL.o];exact hk170)
   obtain⟨f0,f1,f2⟩:=X7 HF9.o
   have lf:=Q6 HF9.o
   have hmq:decide (m=m)=true:=decide_eq_true rfl
   rw[hmo]
   clear hmo hKT hn4 hlt hkx HBR HF6 OT6 OD6 HO6
   go_wp2_with fail
   go_loopg [21] n4 (fun kx s21 wr=>∃j:Nat,s21=.int .i64 j/\j<=n4/\n4 - j<=kx/\Sc (Below wo.heap.size wo wr))
   case atStart=>exact⟨0,rfl,Nat.zero_le _,by omega,⟨Below.refl _ _⟩⟩
   case round=>
    obtain⟨j,rfl,hjn,hjk,HBJ⟩:=hrel
    clear f0 f1 f2 lf
    obtain⟨f0,f1,f2⟩:=X7 (up HBJ.o HF9.o)
    have lf:=Q6 (up HBJ.o HF9.o)
    by_cases hlj:j<n4
    ·obtain⟨y,hy⟩:∃y,t[j]? =some y:=⟨_,List.getElem?_eq_getElem (by rw[<-HTN.o];exact hlj)⟩
     have hoy:=Y5p HCT.o hy
     obtain⟨g1,q1,he,_,_,_,_⟩:=OT9.o.form (by rw[<-HTN.o];omega)
     injection he with hA hj1 hj2
     subst hA
     clear hj1 hj2
     obtain⟨g2,q2,he2,_,_,_,_⟩:=HOR.o.form (by have:=(List.getElem?_eq_some_iff.1 hoy).1;omega)
     injection he2 with hA2 hj1 hj2
     subst hA2
     clear hj1 hj2
     obtain⟨y0,y1,y2,y3⟩:=(OT9.o.below HBJ.o).V6 hy
     have o0:=(HOR.o.below HBJ.o).Uw hoy
     have hjl:(j:Int)<n4:=by omega
     have hdj:decide ((j:Int)<n4)=true:=decide_eq_true hjl
     have yy1:(y.1==y.1)=true:=by simp
     have yy2:decide (y.1=y.1)=true:=decide_eq_true rfl
     clear hy hoy
     go_upto_region 44 with fail
     go_quiet (fail)
     go_wp2
     go_roundg (n4 - (j+1))
     case measure=>omega
     case rel=>exact⟨j+1,by go_num,by omega,Nat.le_refl _,⟨X0 HBJ.o _⟩⟩
    ·obtain rfl:j=n4:=by omega
     have hdj:decide ((j:Int)<j)=false:=decide_eq_false (by omega)
     obtain⟨w9,rfl⟩:∃w9,w9=wr:=⟨_,rfl⟩
     have HUZ:Sc (Ei d ((1:Nat):Int) 0):=⟨Ei.zero HCT.o HG.o⟩
     go_wp2_with fail
     go_loopg [22,23] 33 (fun kx s22 s23 wr=>∃n p:Nat,s22=.int .i64 n/\s23=.int .i64 p/\1<=p/\p<=33/\33 - p<=kx/\Sc (Below w9.heap.size w9 wr)/\Sc (Ei d (p:Int) n))
     case atStart=>exact⟨0,1,rfl,rfl,by omega,by omega,by omega,⟨Below.refl _ _⟩,HUZ⟩
     case round=>
      obtain⟨un,up',rfl,rfl,hp1,hp33,hpk,HBU,HU⟩:=hrel
      have HB9W:=Q0 (Q5 HBJ.o HBU.o)
      clear f0 f1 f2 lf
      obtain⟨f0,f1,f2⟩:=X7 (up HB9W.o HF9.o)
      have lf:=Q6 (up HB9W.o HF9.o)
      by_cases hlp:up'<=32
      ·have hdp:decide ((up':Int)<=32)=true:=decide_eq_true (by omega)
       have hp33':up'<33:=by omega
       have r0:=(HDR.o.below HB9W.o).Uw (Dh K hp33')
       have hpi:(up':Int)<33:=by omega
       have hp0:(0:Int)<=up':=by omega
       obtain⟨z,hz⟩:∃z,Xa K (up':Int)=z:=⟨_,rfl⟩
       have hz0:=(Q4a K (up':Int)).1
       rw[hz]at r0 hz0
       by_cases hzz:z=0
       ·have HU2:Sc (Ei d ((up'+1:Nat):Int) un):=⟨by have:=Ei.skip HCT.o HU.o (hz.trans hzz);simpa using this⟩
        rw[hzz]at r0
        clear hz0 hz
        go_wp2
        go_roundg (33 - (up'+1))
        case measure=>omega
        case rel=>exact⟨un,up'+1,rfl,by go_num,by omega,by omega,Nat.le_refl _,HBU,HU2⟩
       ·obtain⟨hdn,hu2⟩:=Ei.next HCT.o HU.o (by rw[hz];exact hzz)
        rw[hz]at hdn
        have HU2:Sc (Ei d ((up'+1:Nat):Int) (un+1)):=⟨by simpa using hu2⟩
        have hul:=(List.getElem?_eq_some_iff.1 hdn).1
        rw[<-HDN.o]at hul
        have hdz:decide ((0:Int)<z)=true:=decide_eq_true (by omega)
        have hzp:(0:Int)<z:=by omega
        obtain⟨g1,q1,he,_,_,hlc,hcm⟩:=OD9.o.form (by rw[<-HDN.o];omega)
        have hum:(un:Int)+1<9223372036854775808:=by have h2:=HDN.o;unfold maxLen at hcm;omega
        injection he with hA hj1 hj2
        subst hA
        clear hj1 hj2
        obtain⟨y0,y1⟩:=(OD9.o.below HB9W.o).Xb hdn
        have hui:(un:Int)<n2:=by omega
        have hug:¬(n2:Int)<=un:=by omega
        have hud:decide ((n2:Int)<=un)=false:=decide_eq_false hug
        clear hdn hu2 hz0 hz
        go_upto_region 51 with fail
        go_quiet (fail)
        go_wp2
        go_roundg (33 - (up'+1))
        case measure=>omega
        case rel=>exact⟨un+1,up'+1,by go_num,by go_num,by omega,by omega,Nat.le_refl _,⟨X0 HBU.o _⟩,HU2⟩
      ·obtain rfl:up'=33:=by omega
       have hun:=Ei.all HCT.o HG.o HU.o
       rw[<-HDN.o]at hun
       subst hun
       have huu:decide ((un:Int)=un)=true:=decide_eq_true rfl
       go_wp2
       go_ret
       exact⟨rfl,Q5 HB9.o HB9W.o⟩
end Go.Proofs.YtoapihepdallbaaGreatDoor
