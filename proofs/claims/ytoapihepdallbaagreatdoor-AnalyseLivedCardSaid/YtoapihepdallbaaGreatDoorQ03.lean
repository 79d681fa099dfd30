import Derived.Test.YtoapihepdallbaaGreatDoorQ02
namespace Go.Proofs.YtoapihepdallbaaGreatDoor
open Go.RowKit
set_option maxHeartbeats 8000000
def Y6u(base:Nat)(x:Option Int×An)(e:Ending)(w':World):Prop:=
 (∃p,x=(some p,An.zero false)/\e=.returned (.tuple #[.agg fd0,Oc 108 p]))\/
 ∃vt vd,x.1=none/\e=.returned (.tuple #[.agg #[vt,vd,.int .i64 x.2.m],X5 0])/\Own Qg 4 58 base w' vt x.2.t/\Own Qj 2 60 base w' vd x.2.d
theorem Uk{w:World}{b:Nat}{a v u x:Value}{t:TypeId}(h:w.heap[b]? =some (.cells #[a,v,u,x] t (0,0))):w.cell? ⟨b,1,none⟩=some v/\w.cell? ⟨b,2,none⟩=some u/\w.cell? ⟨b,3,none⟩=some x:=by simp[World.cell?,h]
theorem X9g(bs lsn:Int)(r:Q9){s:An}(h:s.ins=false):(Xc bs lsn r s).2.ins=false:=by
 unfold Xc
 rw[if_neg (by rw[h];exact Bool.false_ne_true)]
 split
 ·exact h
 unfold Yu
 split
 ·exact h
 split
 ·exact h
 split
 ·exact h
 ·exact h
theorem Y5q{r:Q9}(h:Qq r=true)(hn:¬(r.kind=2\/r.kind=3\/r.kind=9)):r.page=0:=by
 have h2:inR r.page (min (Xi r) 1) (Xi r)=true:=by
  unfold Qq at h
  simp only[Bool.and_eq_true]at h
  exact h.1.1.1.1.2
 have h3:Xi r=0:=by unfold Xi;rw[if_neg hn]
 rw[h3]at h2
 unfold inR at h2
 simp at h2
 omega
theorem Y5g{r:Q9}(h:Qq r=true):1<=r.kind:=by
 have h2:inR r.kind 1 10=true:=by
  unfold Qq at h
  simp only[Bool.and_eq_true]at h
  exact h.1.1.1.1.1.1
 unfold inR at h2
 simp at h2
 omega
theorem X4k(w:World)(p:Int):Calls Tryz.prog 10 #[Oc 108 p] w fun e w'=>e=.returned (.bool true)/\Below w.heap.size w w':=by
 go_enter Tryz.func10,Tryz.ntmps10
 go_wp2
 go_ret
 exact⟨rfl,Q3 (Below.refl _ _) _⟩
theorem Q7u(w:World):Calls Tryz.prog 10 #[X5 0] w fun e w'=>e=.returned (.bool false)/\Below w.heap.size w w':=by
 go_enter Tryz.func10,Tryz.ntmps10
 go_wp2
 go_ret
 exact⟨rfl,Q3 (Below.refl _ _) _⟩
variable{lb:Nat}{row:Option Nat}{L:List Q9}{bs:Int}
set_option maxRecDepth 8000 in
theorem C4(w:World)(pages Xe:Int)(h:G4 w lb row L bs)(hlen:L.length<=1000)(h0:0<=bs)(h1:bs<=1000)(hp0:0<=pages)(hg:∀r∈L,Qq r=true):
  Calls Tryz.prog 9 #[.pointer (some ⟨lb,0,none⟩),.int .i64 pages,.int .i64 Xe] w fun e w'=>Y6u 0 (Zc L bs pages Xe) e w'/\Below w.heap.size w w':=by
 obtain⟨res,hres⟩:∃res,Zc L bs pages Xe=res:=⟨_,rfl⟩
 rw[hres]
 have HRES:=Q0 hres
 have HG:=Q0 hg
 have HLL:=Q0 (And.intro h.lt h.Gt)
 have HBa:Sc (Below w.heap.size w ((w.alloc (.cells fd0 39)).alloc (.cells fz 41))):=⟨Q3 (Q3 (Below.refl _ _) _) _⟩
 have HZ6:Sc (((w.alloc (.cells fd0 39)).alloc (.cells fz 41)).heap[w.heap.size]? =some (.cells fd0 39 (0,0))):=⟨upa (heap_alloc_new w _) _⟩
 have HZ7:Sc (((w.alloc (.cells fd0 39)).alloc (.cells fz 41)).heap[w.heap.size+1]? =some (.cells fz 41 (0,0))):=⟨by have:=heap_alloc_new (w.alloc (.cells fd0 39)) (.cells fz 41);simpa using this⟩
 have HL1:=Q0 (h.bel HBa.o)
 obtain⟨w1,hw1⟩:∃w1,(w.alloc (.cells fd0 39)).alloc (.cells fz 41)=w1:=⟨_,rfl⟩
 rw[hw1]at HBa HZ6 HZ7 HL1
 have HF0:=Q0 (Z2.new (B:=w1.heap.size) w1 lb (Nat.le_refl _) true)
 have HB2:Sc (Below w1.heap.size w1 (w1.alloc (.cells #[.pointer (some ⟨lb,0,none⟩),.slice none 0 0,.int .i64 0,.slice none 0 0] 125))):=⟨Q3 (Below.refl _ _) _⟩
 obtain⟨w2,hw2⟩:∃w2,w1.alloc (.cells #[.pointer (some ⟨lb,0,none⟩),.slice none 0 0,.int .i64 0,.slice none 0 0] 125)=w2:=⟨_,rfl⟩
 rw[hw2]at HF0 HB2
 have HL2:=Q0 (HL1.o.bel HB2.o)
 obtain⟨b6,hb6⟩:∃b,w.heap.size=b:=⟨_,rfl⟩
 obtain⟨b7,hb7⟩:∃b,b6+1=b:=⟨_,rfl⟩
 obtain⟨fb,hfb⟩:∃b,w1.heap.size=b:=⟨_,rfl⟩
 have HB67:Sc (w.heap.size<=b6/\w.heap.size<=b7):=⟨by omega,by omega⟩
 have hne67:¬b6=b7:=by omega
 have hne76:¬b7=b6:=by omega
 rw[hb6]at HZ6
 rw[hb6,hb7]at HZ7
 have HFB:Sc (w1.heap.size<=fb/\b6<w1.heap.size/\b7<w1.heap.size):=⟨by omega,Q6 HZ6.o,Q6 HZ7.o⟩
 rw[show Z2 w1.heap.size w2 w1.heap.size lb none none (An.zero true)=Z2 w1.heap.size w2 fb lb none none (An.zero true) from by rw[hfb]]at HF0
 have hn6:¬b6=fb:=by have:=HFB.o;omega
 have hn7:¬b7=fb:=by have:=HFB.o;omega
 have hn6':¬fb=b6:=by have:=HFB.o;omega
 have hn7':¬fb=b7:=by have:=HFB.o;omega
 have HLB:Sc (lb<w1.heap.size/\∀q,row=some q->q<w1.heap.size):=⟨Nat.lt_of_lt_of_le HLL.o.1 HBa.o.size,fun q hq=>Nat.lt_of_lt_of_le (HLL.o.2 q hq) HBa.o.size⟩
 have HBOX:Sc (∀X,Below w1.heap.size w1 X->X.heap[b6]? =some (.cells fd0 39 (0,0))/\X.heap[b7]? =some (.cells fz 41 (0,0))):=⟨fun X hX=>⟨up hX HZ6.o,up hX HZ7.o⟩⟩
 have HLOW:Sc (∀X,Below w1.heap.size w1 X->Below w.heap.size w X):=⟨fun X hX=>Q5 HBa.o hX⟩
 have hlen':L.length<=1000000:=by omega
 have h1':bs<=1000000:=by omega
 have hwb:IntKind.i64.wrap (bs+1)=bs+1:=IntWalk.i64_in _ ⟨by omega,by omega⟩
 obtain⟨⟨dp,A,sz,cp,hv,hcl,hown⟩,hap⟩:=HL2.o
 obtain⟨k2,k3,k5⟩:=Xy hcl
 have ll:=Q6 hcl
 clear hres h hg HLL hv hcl hown hap k2 k5
 go_enter Tryz.func9,Tryz.ntmps9
 go_wp2_with fail
 clear hw1 hw2 hb6 hb7 hfb k3 ll
 go_loopg [10] L.length (fun kx s10 wr=>∃i:Nat,s10=.int .i64 (bs+1+i)/\i<=L.length/\L.length - i<=kx/\Sc (Below w1.heap.size w1 wr)/\Sc (Below w2.heap.size w2 wr)/\Sc (Xu pages (bs+1) L=Xu pages (bs+1+i) (L.drop i)))
 case atStart=>exact⟨0,by go_num,Nat.zero_le _,by omega,HB2,⟨Below.refl _ _⟩,⟨by simp⟩⟩
 case round=>
  obtain⟨i,rfl,hi,hk,HB,HQ,HBP⟩:=hrel
  have hw1:IntKind.i64.wrap (bs+1+i+1)=bs+1+((i+1:Nat):Int):=by rw[IntWalk.i64_in _ ⟨by omega,by omega⟩];omega
  go_wp2_with fail
  refine(Vl _ lb row L bs (HL1.o.bel HB.o) hlen' h0 h1').mono ?_
  rintro e w3 ⟨rfl,hb⟩
  have HB3:=Q0 (Q5 HB.o hb)
  have HQ3:=Q0 (Q5 HQ.o hb)
  clear hb HB HQ
  by_cases hlt:i<L.length
  ·obtain⟨r,hr⟩:∃r,L[i]? =some r:=⟨_,List.getElem?_eq_getElem hlt⟩
   have HR:Sc (Qx L bs (bs+1+i)=some r):=⟨by rw[Gr rfl hlt,hr]⟩
   have HRI:=Q0 hr
   have HRG:=Q0 (HG.o r (List.mem_of_getElem? hr))
   have hle:decide (bs+1+(i:Int)<=bs+L.length)=true:=decide_eq_true (by omega)
   clear hr
   go_wp2_with fail
   refine(E3 _ lb row L bs (bs+1+i) (HL1.o.bel HB3.o) hlen' h0 h1').mono ?_
   rw[HR.o]
   rintro e w4 ⟨rfl,hb⟩
   have HB5:Sc (Below w1.heap.size w1 (w4.alloc (.cells (Qe r) 49))):=⟨Q3 (Q5 HB3.o hb) _⟩
   have HQ5:Sc (Below w2.heap.size w2 (w4.alloc (.cells (Qe r) 49))):=⟨Q3 (Q5 HQ3.o hb) _⟩
   clear hb HB3 HQ3
   simp only[Option.getD_some]
   obtain⟨c0,c1,c2,c3,c4,c5,c6,c7,c8,c9⟩:=Qb (heap_alloc_new w4 (.cells (Qe r) 49))
   by_cases hp:pages<r.page
   ·have hdp:decide (pages<r.page)=true:=decide_eq_true hp
    have HE:Sc (res=(some (bs+1+(i:Int)),An.zero false)):=⟨by
     have hkk:r.kind=2\/r.kind=3\/r.kind=9:=Classical.byContradiction fun hn=>by
      have:=Y5q HRG.o hn
      omega
     rw[<-HRES.o]
     exact Q7q (by rw[HBP.o,Cr HRI.o ⟨hkk,hp⟩])⟩
    clear hp
    go_wp2_with fail
    refine(Ja _ 108 (bs+1+i) (by omega)).mono ?_
    rintro e w6 ⟨rfl,hb⟩
    have HB6:=Q0 (Q5 HB5.o hb)
    obtain⟨q0,q1,q2,y0,y1,y2,lz⟩:=Q7 (HBOX.o w6 HB6.o).2
    obtain⟨p0,p1,p2,g0,g1,g2,lp⟩:=Q7 (HBOX.o w6 HB6.o).1
    clear hb c0 c1 c2 c3 c4 c5 c6 c7 c8 c9
    go_wp2
    refine bodyPost_ret (v:=.tuple #[.agg fd0,Oc 108 (bs+1+i)]) (by simp[results,Tryz.results9,go_sem,q0,q1,q2,p0,p1,p2]) rfl ⟨.inl ⟨_,HE.o,rfl⟩,?_⟩
    (repeat (first|with_reducible refine Below.drew ?_|(with_reducible refine Below.setCell ?_ ?_ _;rotate_left;(first|exact HB67.o.1|exact HB67.o.2))))
    exact HLOW.o _ HB6.o
   ·have hdp:decide (pages<r.page)=false:=decide_eq_false hp
    have HBP2:Sc (Xu pages (bs+1) L=Xu pages (bs+1+((i+1:Nat):Int)) (L.drop (i+1))):=⟨by rw[HBP.o,Cq HRI.o (fun h=>hp h.2)];congr 1;omega⟩
    clear hp
    go_wp2
    go_roundg (L.length - (i+1))
    case measure=>omega
    case rel=>exact⟨i+1,by rw[show bs+1+((i+1:Nat):Int)=bs+1+((i:Int)+1) from by omega],by omega,Nat.le_refl _,HB5,HQ5,HBP2⟩
  ·have hle:decide (bs+1+(i:Int)<=bs+L.length)=false:=decide_eq_false (by omega)
   have HI:Sc (i=L.length):=⟨by omega⟩
   have HBN:Sc (Xu pages (bs+1) L=none):=⟨by rw[HBP.o,HI.o,Q1t]⟩
   have HF3:=Q0 (HF0.o.bel HQ3.o)
   clear hw1 hi hk hlt HBP HQ3
   go_upto_if 47 with fail
   go_cut [9] from 47 to 59 (fun s9 wx=>∃(i0:Nat) (s:An) (rt rd:Option Nat),s9=.int .i64 (bs+1+i0)/\i0<=L.length/\s.t.length<=i0/\s.d.length<=i0/\s.ins=false/\Sc (Seen s)/\Sc (Z2 w1.heap.size wx fb lb rt rd s)/\Sc (Below w1.heap.size w1 wx)/\Sc (Zc L bs pages Xe=Y7 (bs+L.length) (Xz bs (bs+1+i0) (L.drop i0) s)))
   case first=>
    by_cases hck:Xe=0
    ·have e0:(Xe==0)=true:=by simp[hck]
     have HA:Sc (Zc L bs pages Xe=Y7 (bs+L.length) (Xz bs (bs+1+((0:Nat):Int)) (L.drop 0) (An.zero false))):=⟨by rw[hck,Q7r HBN.o];simp⟩
     clear hck
     go_wp2_with fail
     go_meet
     case rel=>
      obtain⟨a1,a2,a3,a4,a5,a6,a7,a8,a9⟩:=HF3.o
      exact⟨0,An.zero false,none,none,by go_num,Nat.zero_le _,Nat.zero_le _,Nat.zero_le _,rfl,⟨Q8l false⟩,⟨a1,a2,a3,a4,a5,a6,a7,a8,a9⟩,HB3,HA⟩
    ·have e0:(Xe==0)=false:=Ql hck
     have HCK:Sc (Xe≠0):=⟨hck⟩
     clear hck
     go_wp2_with fail
     refine(Y2v _ pages Xe HF3.o (HL1.o.bel HB3.o) HLB.o hlen h0 h1 HBN.o HCK.o).mono ?_
     rintro e w4 ⟨⟨p,rfl,hpe⟩|⟨j,rt,rd,s,rfl,hj,hst,hsd,hins,hsn,hf,ha⟩,hb⟩
     ·have HE:Sc (res=(some p,An.zero false)):=⟨by rw[<-HRES.o,hpe]⟩
      have HB5:Sc (Below w1.heap.size w1 (w4.alloc (.cells #[.int .i64 108,.bool true,.int .i64 p] 41))):=⟨Q3 (HB3.o.trans hb) _⟩
      have HZ4:=Q0 (heap_alloc_new w4 (.cells #[.int .i64 108,.bool true,.int .i64 p] 41))
      have hsz:w1.heap.size<=w4.heap.size:=Nat.le_trans HB3.o.size hb.size
      clear hpe hb HF3
      obtain⟨z0,z1,z2,x0,x1,x2,lx⟩:=Q7 HZ4.o
      go_wp2_with fail
      refine(X4k _ p).mono ?_
      rintro e w6 ⟨rfl,hb6⟩
      have HB6:=Q0 (Q5 HB5.o hb6)
      have HZ5:=Q0 (up hb6 HZ4.o)
      have n1:¬w4.heap.size=b6:=by have:=HFB.o;omega
      have n2:¬w4.heap.size=b7:=by have:=HFB.o;omega
      have n3:¬b6=w4.heap.size:=by have:=HFB.o;omega
      have n4:¬b7=w4.heap.size:=by have:=HFB.o;omega
      clear hb6 z0 z1 z2 x0 x1 x2 lx
      obtain⟨z0,z1,z2,x0,x1,x2,lx⟩:=Q7 HZ5.o
      obtain⟨q0,q1,q2,y0,y1,y2,lz⟩:=Q7 (HBOX.o w6 HB6.o).2
      obtain⟨p0,p1,p2,g0,g1,g2,lp⟩:=Q7 (HBOX.o w6 HB6.o).1
      go_wp2_with fail
      go_region
      all_goals
       go_wp2
       refine bodyPost_ret (v:=.tuple #[.agg fd0,Oc 108 p]) (by simp[results,Tryz.results9,go_sem,q0,q1,q2,p0,p1,p2]) rfl ⟨.inl ⟨p,HE.o,rfl⟩,?_⟩
       (repeat (first|with_reducible refine Below.drew ?_|(with_reducible refine Below.setCell ?_ ?_ _;rotate_left;(first|exact HB67.o.1|exact HB67.o.2))))
       exact HLOW.o _ HB6.o
     ·have HFC:=Q0 (hf.bel (Q3 (Below.refl _ _) (.cells #[.int .i64 0,.bool false,.int .i64 0] 41)))
      have HSN:=Q0 hsn
      have HA:Sc (Zc L bs pages Xe=Y7 (bs+L.length) (Xz bs (bs+1+((j+1:Nat):Int)) (L.drop (j+1)) s)):=⟨ha⟩
      have HINS:=Q0 hins
      have HB5:Sc (Below w1.heap.size w1 (w4.alloc (.cells #[.int .i64 0,.bool false,.int .i64 0] 41))):=⟨Q3 (HB3.o.trans hb) _⟩
      have HZ4:=Q0 (heap_alloc_new w4 (.cells #[.int .i64 0,.bool false,.int .i64 0] 41))
      have hwk:IntKind.i64.wrap (bs+1+(j:Int)+1)=bs+1+((j+1:Nat):Int):=by rw[IntWalk.i64_in _ ⟨by omega,by omega⟩];omega
      clear hf hsn ha hins hb HF3
      obtain⟨z0,z1,z2,x0,x1,x2,lx⟩:=Q7 HZ4.o
      go_wp2_with fail
      refine(Q7u _).mono ?_
      rintro e w6 ⟨rfl,hb6⟩
      have HB6:=Q0 (Q5 HB5.o hb6)
      have HF6:=Q0 (HFC.o.bel hb6)
      clear hb6 z0 z1 z2 x0 x1 x2 lx HZ4 HFC HB5
      go_wp2_with fail
      go_meet
      case rel=>exact⟨j+1,s,rt,rd,rfl,by omega,by omega,by omega,HINS.o,HSN,HF6,HB6,HA⟩
   case rest=>
    obtain⟨i0,s0,rt0,rd0,rfl,hi0,hst0,hsd0,hins0,HSN0,HF4,HB4,HA4⟩:=hcut
    have HI0:=Q0 hins0
    clear HF0 HF3 HB3 hins0
    go_wp2_with fail
    go_loopg [15] L.length (fun kx s15 wr=>∃(k:Nat) (s:An) (rt rd:Option Nat),s15=.int .i64 (bs+1+k)/\k<=L.length/\L.length - k<=kx/\s.t.length<=k/\s.d.length<=k/\Sc (s.ins=false)/\Sc (Seen s)/\Sc (Z2 w1.heap.size wr fb lb rt rd s)/\Sc (Below w1.heap.size w1 wr)/\Sc (Zc L bs pages Xe=Y7 (bs+L.length) (Xz bs (bs+1+k) (L.drop k) s)))
    case atStart=>exact⟨i0,s0,rt0,rd0,rfl,hi0,by omega,hst0,hsd0,HI0,HSN0,HF4,HB4,HA4⟩
    case round=>
     obtain⟨k,s,rt,rd,rfl,hk,hkx,hst,hsd,HINS,HSN,HF,HB,HA⟩:=hrel
     have hw1:IntKind.i64.wrap (bs+1+k+1)=bs+1+(k:Int)+1:=IntWalk.i64_in _ ⟨by omega,by omega⟩
     clear HF4 HB4 HA4 HSN0 HI0 hst0 hsd0
     go_wp2_with fail
     refine(Vl _ lb row L bs (HL1.o.bel HB.o) hlen' h0 h1').mono ?_
     rintro e w3 ⟨rfl,hb⟩
     have HB3:=Q0 (Q5 HB.o hb)
     have HF3:=Q0 (HF.o.bel hb)
     clear hb HB HF
     by_cases hlt:k<L.length
     ·obtain⟨r,hr⟩:∃r,L[k]? =some r:=⟨_,List.getElem?_eq_getElem hlt⟩
      have HR:Sc (Qx L bs (bs+1+k)=some r):=⟨by rw[Gr rfl hlt,hr]⟩
      have HRI:=Q0 hr
      have HRG:=Q0 (HG.o r (List.mem_of_getElem? hr))
      have hle:decide (bs+1+(k:Int)<=bs+L.length)=true:=decide_eq_true (by omega)
      clear hr
      go_wp2_with fail
      refine(E3 _ lb row L bs (bs+1+k) (HL1.o.bel HB3.o) hlen' h0 h1').mono ?_
      rw[HR.o]
      rintro e w4 ⟨rfl,hb⟩
      have HB4:Sc (Below w1.heap.size w1 (w4.alloc (.cells (Qe r) 49))):=⟨Q3 (Q5 HB3.o hb) _⟩
      have HF4:Sc (Z2 w1.heap.size (w4.alloc (.cells (Qe r) 49)) fb lb rt rd s):=⟨HF3.o.bel (Q3 hb _)⟩
      clear hb HB3 HF3
      simp only[Option.getD_some]
      obtain⟨c0,c1,c2,c3,c4,c5,c6,c7,c8,c9⟩:=Qb (heap_alloc_new w4 (.cells (Qe r) 49))
      go_wp2_with fail
      refine(Y5t _ bs (bs+1+k) r HF4.o HSN.o HINS.o (Y5g HRG.o) (by omega) (by omega)).mono ?_
      rintro e w5 ⟨rfl,hl⟩
      have HB6:Sc (Below w1.heap.size w1 w5):=⟨HB4.o.trans (hl.below HF4.o)⟩
      have HLN:=Q0 (Q1q (bs:=bs) (bs+1+k) r s)
      have HSE:=Q0 (X6k bs (bs+1+k) r HSN.o)
      have HIN:Sc ((Xc bs (bs+1+k) r s).2.ins=false):=⟨by rw[X9g _ _ _ HINS.o]⟩
      have HRN:(Xc bs (bs+1+k) r s).1=true->Sc (Zc L bs pages Xe=Y7 (bs+L.length) (Xz bs (bs+1+(k:Int)+1) (L.drop (k+1)) (Xc bs (bs+1+k) r s).2)):=fun h=>⟨by rw[HA.o,Q1k HRI.o h]⟩
      have HRS:(Xc bs (bs+1+k) r s).1=false->Sc (res=(some (bs+1+(k:Int)),An.zero false)):=fun h=>⟨by rw[<-HRES.o,HA.o];exact C5 (Q1m HRI.o h)⟩
      obtain⟨rt5,rd5,hf5,_,_,_⟩:=hl
      have HF5:=Q0 hf5
      clear hf5
      obtain⟨ok,hok⟩:∃ok,(Xc bs (bs+1+k) r s).1=ok:=⟨_,rfl⟩
      obtain⟨s',hs'⟩:∃s',(Xc bs (bs+1+k) r s).2=s':=⟨_,rfl⟩
      rw[hok]at HRN HRS ⊢
      rw[hs']at HRN HF5 HLN HSE HIN
      clear hok hs' HF4 HB4 c0 c1 c2 c3 c4 c5 c6 c7 c8 c9
      cases ok with
      |true=>
       have HAN:=HRN rfl
       clear HRN HRS
       obtain⟨hl1,hl2⟩:=HLN.o
       go_wp2
       go_roundg (L.length - (k+1))
       case measure=>omega
       case rel=>exact⟨k+1,s',rt5,rd5,by rw[show bs+1+((k+1:Nat):Int)=bs+1+(k:Int)+1 from by omega],by omega,Nat.le_refl _,by omega,by omega,HIN,HSE,HF5,HB6,⟨by rw[HAN.o,show bs+1+((k+1:Nat):Int)=bs+1+(k:Int)+1 from by omega]⟩⟩
      |false=>
       have HE:=HRS rfl
       clear HRN HRS
       go_wp2_with fail
       refine(Ja _ 108 (bs+1+k) (by omega)).mono ?_
       rintro e w7 ⟨rfl,hb⟩
       have HB7:=Q0 (Q5 HB6.o hb)
       obtain⟨q0,q1,q2,y0,y1,y2,lz⟩:=Q7 (HBOX.o w7 HB7.o).2
       obtain⟨p0,p1,p2,g0,g1,g2,lp⟩:=Q7 (HBOX.o w7 HB7.o).1
       clear hb
       go_wp2
       refine bodyPost_ret (v:=.tuple #[.agg fd0,Oc 108 (bs+1+k)]) (by simp[results,Tryz.results9,go_sem,q0,q1,q2,p0,p1,p2]) rfl ⟨.inl ⟨_,HE.o,rfl⟩,?_⟩
       (repeat (first|with_reducible refine Below.drew ?_|(with_reducible refine Below.setCell ?_ ?_ _;rotate_left;(first|exact HB67.o.1|exact HB67.o.2))))
       exact HLOW.o _ HB7.o
     ·have hle:decide (bs+1+(k:Int)<=bs+L.length)=false:=decide_eq_false (by omega)
      have HE:Sc (res=(none,s)):=⟨by rw[<-HRES.o,HA.o,show k=L.length from by omega,Q5h,Q7t HINS.o]⟩
      obtain⟨⟨vt,vd,e1,e2,hc,o1,o2⟩,a1,a2,_⟩:=HF3.o
      obtain⟨At,nt,ct,rfl⟩:=o1.slice3
      obtain⟨Ad,nd,cd,rfl⟩:=o2.slice3
      have HFC:=Q0 hc
      have HOT:=Q0 o1
      have HOD:=Q0 o2
      have HNT:Sc (∀q,(Value.slice At nt ct).ownBlock=some q->w1.heap.size<=q):=⟨fun q hq=>HF3.o.Y5k q (by rw[<-e1];exact hq)⟩
      have HND:Sc (∀q,(Value.slice Ad nd cd).ownBlock=some q->w1.heap.size<=q):=⟨fun q hq=>HF3.o.Y5j q (by rw[<-e2];exact hq)⟩
      clear hw1 HA hst hsd hkx hk hlt e1 e2 hc o1 o2 a1 a2
      go_wp2_with fail
      have HQ:Sc (Below w3.heap.size w3 w3):=⟨Below.refl _ _⟩
      have CN:∀X,Below w3.heap.size w3 X->Calls Tryz.prog 41 #[] X fun e w'=>e=.returned (X5 0)/\Below w3.heap.size w3 w':=fun X hX=>(Vc X).mono fun e w' ⟨he,hq⟩=>⟨he,hX.trans (hq.mono hX.size)⟩
      obtain⟨f1,f2,f3⟩:=Uk HFC.o
      have lf:=Q6 HFC.o
      obtain⟨q0,q1,q2,y0,y1,y2,lz⟩:=Q7 (HBOX.o w3 HB3.o).2
      obtain⟨p0,p1,p2,g0,g1,g2,lp⟩:=Q7 (HBOX.o w3 HB3.o).1
      have HSW:Sc (∀W,Below w3.heap.size w3 W->W.cell? ⟨fb,1,none⟩=some (.slice At nt ct)/\W.cell? ⟨fb,2,none⟩=some (.int .i64 s.m)/\W.cell? ⟨fb,3,none⟩=some (.slice Ad nd cd)):=⟨fun W h=>Uk (up h HFC.o)⟩
      have HS6:Sc (∀W (u0 u1 u2:Value),Below w3.heap.size w3 W->(((W.setCell ⟨b6,0,none⟩ u0).setCell ⟨b6,1,none⟩ u1).setCell ⟨b6,2,none⟩ u2).cell? ⟨fb,1,none⟩=some (.slice At nt ct)/\(((W.setCell ⟨b6,0,none⟩ u0).setCell ⟨b6,1,none⟩ u1).setCell ⟨b6,2,none⟩ u2).cell? ⟨fb,2,none⟩=some (.int .i64 s.m)/\(((W.setCell ⟨b6,0,none⟩ u0).setCell ⟨b6,1,none⟩ u1).setCell ⟨b6,2,none⟩ u2).cell? ⟨fb,3,none⟩=some (.slice Ad nd cd)):=⟨fun W u0 u1 u2 h=>Uk ((Jr (b:=b6)).at (up h HFC.o) hn6')⟩
      have HS67:Sc (∀W (u0 u1 u2 v0 v1 v2:Value),Below w3.heap.size w3 W->((((((W.setCell ⟨b6,0,none⟩ u0).setCell ⟨b6,1,none⟩ u1).setCell ⟨b6,2,none⟩ u2).setCell ⟨b7,0,none⟩ v0).setCell ⟨b7,1,none⟩ v1).setCell ⟨b7,2,none⟩ v2).cell? ⟨fb,1,none⟩=some (.slice At nt ct)/\((((((W.setCell ⟨b6,0,none⟩ u0).setCell ⟨b6,1,none⟩ u1).setCell ⟨b6,2,none⟩ u2).setCell ⟨b7,0,none⟩ v0).setCell ⟨b7,1,none⟩ v1).setCell ⟨b7,2,none⟩ v2).cell? ⟨fb,2,none⟩=some (.int .i64 s.m)/\((((((W.setCell ⟨b6,0,none⟩ u0).setCell ⟨b6,1,none⟩ u1).setCell ⟨b6,2,none⟩ u2).setCell ⟨b7,0,none⟩ v0).setCell ⟨b7,1,none⟩ v1).setCell ⟨b7,2,none⟩ v2).cell? ⟨fb,3,none⟩=some (.slice Ad nd cd)):=⟨fun W u0 u1 u2 v0 v1 v2 h=>Uk ((Jr (b:=b7)).at ((Jr (b:=b6)).at (up h HFC.o) hn6') hn7')⟩
      go_region_held3 (fun W=>W.cell? ⟨fb,1,none⟩=some (.slice At nt ct)/\W.cell? ⟨fb,2,none⟩=some (.int .i64 s.m)/\W.cell? ⟨fb,3,none⟩=some (.slice Ad nd cd))
       (first|with_reducible exact HSW.o _ HQ.o|with_reducible exact HSW.o _ (Below.drew HQ.o)|with_reducible exact HS6.o _ _ _ _ HQ.o|with_reducible exact HS6.o _ _ _ _ (Below.drew HQ.o)|with_reducible exact HS67.o _ _ _ _ _ _ _ HQ.o|with_reducible exact HS67.o _ _ _ _ _ _ _ (Below.drew HQ.o))
       (first
        |(go_at_call 41;go_loud (refine(CN _ (by first|with_reducible exact HQ.o|with_reducible exact Below.drew HQ.o)).mono ?_;rintro e wt ⟨rfl,hq⟩;have HQ:=Q0 hq;obtain⟨f1,f2,f3⟩:=Uk (up hq HFC.o);have lf:=Q6 (up hq HFC.o);obtain⟨q0,q1,q2,y0,y1,y2,lz⟩:=Q7 (HBOX.o wt (Q5 HB3.o hq)).2;obtain⟨p0,p1,p2,g0,g1,g2,lp⟩:=Q7 (HBOX.o wt (Q5 HB3.o hq)).1;clear hq)))
      all_goals
       clear CN
       go_wp2
       refine bodyPost_ret (v:=.tuple #[.agg #[.slice At nt ct,.slice Ad nd cd,.int .i64 s.m],X5 0]) (by simp[results,Tryz.results9,go_sem,q0,q1,q2,p0,p1,p2]) rfl ⟨.inr ⟨.slice At nt ct,.slice Ad nd cd,by rw[HE.o],by rw[HE.o],?_,?_⟩,?_⟩
       ·rw[HE.o]
        exact((HOT.o.below HQ.o).kp (Jr (b:=b6)) (fun q hq he=>by have:=HNT.o q hq;have:=HFB.o;omega)).kp (Jr (b:=b7)) (fun q hq he=>by have:=HNT.o q hq;have:=HFB.o;omega)
       ·rw[HE.o]
        exact((HOD.o.below HQ.o).kp (Jr (b:=b6)) (fun q hq he=>by have:=HND.o q hq;have:=HFB.o;omega)).kp (Jr (b:=b7)) (fun q hq he=>by have:=HND.o q hq;have:=HFB.o;omega)
       ·(repeat (first|with_reducible refine Below.drew ?_|(with_reducible refine Below.setCell ?_ ?_ _;rotate_left;(first|exact HB67.o.1|exact HB67.o.2))))
        exact HLOW.o _ (Q5 HB3.o HQ.o)
end Go.Proofs.YtoapihepdallbaaGreatDoor
