import Derived.Test.YtoapihepdallbaaGreatDoorP25
namespace Go.Proofs.YtoapihepdallbaaGreatDoor
open Go.RowKit
def J4.trim(g:J4):J4:=⟨g.ib,g.off+(g.len - 1),1,g.cap - (g.len - 1),g.vb,g.bc,g.f⟩
theorem Eh.trim{w:World}{g:J4}(h:Eh w g):Eh w g.trim:=by
 have h1:=h.some_
 have h2:=h.fits
 have h3:=h.few
 refine⟨Nat.le_refl _,by show 1<=g.cap - (g.len - 1);omega,by show g.cap - (g.len - 1)<=maxLen;omega,fun k hk=> ?_,?_,h.row⟩
 ·have hk':k<1:=hk
  obtain rfl:k=0:=by omega
  exact⟨g.vb,g.bc,h.last⟩
 ·show w.cell? ⟨g.ib,g.off+(g.len - 1)+(1 - 1),none⟩=_
  exact h.last
def Qw.syn(D:Qw)(i:Nat):Qw:=⟨D.db,D.sr,D.cap,(D.s.take i).map J4.trim++D.s.drop i,D.vm⟩
theorem Ci(D:Qw)(i:Nat):(D.syn i).s.length=D.s.length:=by
 show((D.s.take i).map J4.trim++D.s.drop i).length=_
 rw[List.length_append,List.length_map,List.length_take,List.length_drop]
 omega
theorem X6r{D:Qw}{i:Nat}{g:J4}(h:D.s[i]? =some g):(D.syn i).s[i]? =some g:=by
 have hl:=(List.getElem?_eq_some_iff.1 h).1
 show((D.s.take i).map J4.trim++D.s.drop i)[i]? =_
 have:((D.s.take i).map J4.trim).length=i:=by rw[List.length_map,List.length_take];omega
 rw[List.getElem?_append_right (by omega),this,Nat.sub_self,List.getElem?_drop,Nat.add_zero]
 exact h
theorem Y5z{D:Qw}{i:Nat}{g:J4}(h:D.s[i]? =some g)(hv:1<=D.vm):(D.syn i).put i g.trim=D.syn (i+1):=by
 have hl:=(List.getElem?_eq_some_iff.1 h).1
 have hlen:((D.s.take i).map J4.trim).length=i:=by rw[List.length_map,List.length_take];omega
 have hd:D.s.drop i=g::D.s.drop (i+1):=by
  rw[List.drop_eq_getElem_cons hl,(List.getElem?_eq_some_iff.1 h).2]
 have ht:D.s.take (i+1)=D.s.take i++[g]:=by rw[List.take_add_one,h];rfl
 have hs:((D.s.take i).map J4.trim++D.s.drop i).set i g.trim=(D.s.take (i+1)).map J4.trim++D.s.drop (i+1):=by
  rw[List.set_append_right _ _ (by omega),hlen,Nat.sub_self,hd,List.set_cons_zero,ht,List.map_append]
  simp
 show Qw.mk D.db D.sr D.cap (((D.s.take i).map J4.trim++D.s.drop i).set i g.trim) (max D.vm 1)=Qw.mk D.db D.sr D.cap _ D.vm
 rw[hs,Nat.max_eq_left hv]
theorem Y3l(D:Qw):D.syn 0=D:=by
 show Qw.mk D.db D.sr D.cap ((D.s.take 0).map J4.trim++D.s.drop 0) D.vm=D
 rw[List.take_zero,List.drop_zero]
 rfl
theorem Y5y(D:Qw):(D.syn D.s.length).s=D.s.map J4.trim:=by
 show(D.s.take D.s.length).map J4.trim++D.s.drop D.s.length=_
 rw[List.take_length,List.drop_length,List.append_nil]
theorem Zb.sync{D:Qw}{w:World}{i:Nat}{g:J4}(h:Zb (D.syn i) w)(hg:D.s[i]? =some g)(hv:1<=D.vm):Zb (D.syn (i+1)) (w.setCell ⟨D.sr,i,none⟩ (Dp g.trim)):=by
 obtain⟨_,hs⟩:=h.sec (X6r hg)
 have hm:=List.mem_of_getElem? (X6r hg)
 obtain⟨a1,a2,a3,a4⟩:=h.apart g hm
 have:=Zb.store (D:=D.syn i) (i:=i) (g:=g.trim) h (Below.refl _ w) ((hs.trim).kp (S:=fun q=>q=D.sr) (Kp.setCell w ⟨D.sr,i,none⟩ (Dp g.trim)) a1 a3) ⟨a1,a2,a3,a4⟩
 rw[Y5z hg hv]at this
 exact this
structure X4h(D:Qw)(w:World)(i:Nat)(wr:World):Prop where
 V8:Zb (D.syn i) wr
 kp:Kp (fun q=>q=D.sr) w wr
def Qw.done(D:Qw):Qw:=⟨D.db,D.sr,D.cap,D.s.map J4.trim,1⟩
theorem X4h.leaves{D:Qw}{w wr:World}(h:X4h D w D.s.length wr):Q8 (Qo D) (Qo D.done) w wr:=by
 obtain⟨⟨d1,d2,d3,d4,d5,d6,d7,d8⟩,hk⟩:=h
 have he:=Y5y D
 have hl:=Ci D D.s.length
 rw[hl]at d1 d2
 rw[he]at d5 d8
 refine⟨⟨?_,?_,d3,?_,d5,?_,d7,d8⟩,hk.mono (fun q hq=> .inr (.inl hq)),fun q hq=> ?_⟩
 ·show wr.heap[D.db]? =some (.cells #[.slice (some ⟨D.sr,0,none⟩) (D.s.map J4.trim).length D.cap,_,_] _ _)
  rw[List.length_map]
  exact d1
 ·show(D.s.map J4.trim).length<=D.cap
  rw[List.length_map]
  exact d2
 ·obtain⟨cs,hc,hall⟩:=d4
  refine⟨cs,hc,fun i hi=> ?_⟩
  have hi':i<(D.syn D.s.length).s.length:=by rw[he];exact hi
  rw[hall i hi']
  congr 2
  exact List.getElem_of_eq he _
 ·intro g hg
  obtain⟨x,hx,rfl⟩:=List.mem_map.1 (show g∈D.s.map J4.trim from hg)
  exact Nat.le_refl 1
 ·rcases hq with hq|hq|⟨g,hg,hq⟩
  ·exact .inl (.inl hq)
  ·exact .inl (.inr (.inl hq))
  ·obtain⟨x,hx,rfl⟩:=List.mem_map.1 (show g∈D.s.map J4.trim from hg)
   exact .inl (.inr (.inr ⟨x,hx,hq⟩))
theorem Q4e(D:Qw):D.done.c=D.c:=by
 show(D.s.map J4.trim).map (·.f)=D.s.map (·.f)
 rw[List.map_map]
 rfl
set_option maxRecDepth 4000 in
set_option maxHeartbeats 4000000 in
theorem Ov(D:Qw)(w:World)(h:Zb D w)(hvm:1<=D.vm)(hn:D.s.length<=1000):
  Calls Tryz.prog 91 #[.pointer (some ⟨D.db,0,none⟩)] w fun e w'=>e=.returned (.int .i64 0)/\Q8 (Qo D) (Qo D.done) w w':=by
 have HD:=Q0 h
 obtain⟨c0,c1,c2,lt⟩:=h.cells
 have HV:=Q0 hvm
 obtain⟨n,hl⟩:∃n,D.s.length=n:=⟨_,rfl⟩
 rw[hl]at hn
 have HL:=Q0 hl
 obtain⟨db,hdb⟩:∃db,D.db=db:=⟨_,rfl⟩
 rw[hdb]at c0 c1 c2 lt ⊢
 have HDB:=Q0 hdb
 have HBURN:Sc (Calls Tryz.prog 132 #[.pointer (some ⟨db,0,none⟩)] w fun e w'=>e=.returned (.bool true)/\w=w'):=⟨by have:=Cw _ _ HD.o;rw[hdb]at this;exact this⟩
 clear h hvm hl hdb c0 c1
 go_enter Tryz.func91,Tryz.ntmps91
 go_wp2_with fail
 refine HBURN.o.mono ?_
 rintro e w' ⟨rfl,rfl⟩
 go_wp2_with fail
 go_loopg [3] n (fun kx s3 wr=>∃i:Nat,s3=.int .i64 i/\i<=n/\n - i<=kx/\Sc (X4h D w i wr))
 case atStart=>exact⟨0,rfl,Nat.zero_le _,by omega,⟨⟨by rw[Y3l];exact HD.o,Kp.Qi (Below.refl _ _) _⟩⟩⟩
 case round=>
  obtain⟨i,rfl,hin,hg,HLI⟩:=hrel
  have hdz:=HLI.o.V8
  obtain⟨d0,d1,d2,dl⟩:=hdz.cells
  rw[Ci,HL.o]at d0
  have HDB2:Sc ((D.syn i).db=db):=⟨HDB.o⟩
  rw[HDB2.o]at d0 d1 d2 dl
  obtain⟨sr,hsr⟩:∃sr,(D.syn i).sr=sr:=⟨_,rfl⟩
  obtain⟨cap,hcap⟩:∃cap,(D.syn i).cap=cap:=⟨_,rfl⟩
  have hfit:=hdz.fits
  have hfew:=hdz.few
  rw[Ci,HL.o,hcap]at hfit
  rw[hcap]at hfew
  rw[hsr,hcap]at d0
  by_cases hlt:i<n
  ·obtain⟨g,hgi⟩:∃g,D.s[i]? =some g:=⟨_,List.getElem?_eq_getElem (by rw[HL.o];exact hlt)⟩
   have HG:=Q0 hgi
   obtain⟨e0,es⟩:=hdz.sec (X6r hgi)
   rw[hsr]at e0
   unfold Dp at e0
   have s1:=es.some_
   have s2:=es.fits
   have s3:=es.few
   have HSR:Sc (D.sr=sr):=⟨hsr⟩
   obtain⟨ln,hln⟩:∃ln,g.len=ln:=⟨_,rfl⟩
   obtain⟨ib,hib⟩:∃ib,g.ib=ib:=⟨_,rfl⟩
   obtain⟨off,hoff⟩:∃off,g.off=off:=⟨_,rfl⟩
   obtain⟨gc,hgc⟩:∃gc,g.cap=gc:=⟨_,rfl⟩
   obtain⟨m,hm⟩:∃m,g.len - 1=m:=⟨_,rfl⟩
   rw[hln,hib,hoff,hgc]at e0
   rw[hln]at s1 s2
   rw[hgc]at s2 s3
   have HSV:Sc (Dp g.trim=.slice (some ⟨ib,off+m,none⟩) 1 (gc - m)):=⟨by unfold Dp J4.trim;rw[hib,hoff,hgc,hm]⟩
   have hwm:IntKind.i64.wrap ((ln:Int) - 1)=(m:Int):=by rw[IntWalk.i64_in _ ⟨by unfold maxLen at s3;omega,by unfold maxLen at s3;omega⟩];omega
   have hm1:(m:Int)<(ln:Int):=by omega
   have hm3:¬((ln:Int)<(m:Int)):=by omega
   have hm4:(m:Int)<=(ln:Int):=by omega
   have hm5:(ln:Int)<=gc:=by omega
   have hm6:(m:Int)<=gc:=by omega
   have hm2:(0:Int)<=(m:Int):=by omega
   have HLM:Sc (ln - m=1):=⟨by omega⟩
   have hil:(i:Int)<n:=by omega
   have hwi:IntKind.i64.wrap ((i:Int)+1)=(i:Int)+1:=IntWalk.i64_in _ ⟨by omega,by omega⟩
   obtain⟨cs,hcs,_⟩:=hdz.row
   rw[hsr]at hcs
   have fr:=Q2 hcs i
   have ls:=Q6 hcs
   clear hdz hgi es hsr hcap hln hib hoff hgc hm hcs s1
   go_wp2_with fail
   go_region
   all_goals
    go_wp2
    go_roundg (n - (i+1))
    case measure=>omega
    case rel=>exact⟨i+1,by go_num,by omega,Nat.le_refl _,⟨by
     have hd:=(HLI.o.V8).sync HG.o HV.o
     have hk:=HLI.o.kp
     rw[HSR.o,HSV.o]at hd
     rw[HLM.o]
     rw[HSR.o]at hk
     exact⟨(Qo (D.syn (i+1))).bel hd (Below.drew (Below.refl _ _)),by rw[HSR.o];exact(hk.trans (Kp.setCell wr ⟨sr,i,none⟩ (.slice (some ⟨ib,off+m,none⟩) 1 (gc - m))) (fun _ h=> .inl h)).drew⟩⟩⟩
  ·obtain rfl:i=n:=by omega
   clear hdz hsr hcap
   go_wp2
   go_ret
   exact⟨rfl,by have h:=HLI.o;rw[<-HL.o]at h;exact h.leaves⟩
section
set_option maxHeartbeats 4000000
set_option maxRecDepth 4000
theorem X2n{W:World}{b:Nat}{l:List Int}{cs:Array Value}(h:W.heap[b]? =some (.cells cs 5 (0,0)))(hcs:cs.toList=flat Yx l)(hl:l.length<=maxLen)(hs:cs.size=l.length):
  RdB W (.slice (some ⟨b,0,none⟩) l.length l.length) l:=
 (Own.Jc (base:=0) h (Nat.zero_le _) Ee rfl (Nat.le_refl _) hl (by rw[hs,Nat.mul_one]) (by rw[hcs,List.take_of_length_le (by rw[Ee.Qp];exact Nat.le_refl _)])).rd
theorem Y7w{W:World}{b i:Nat}{x0 x1 x2 x3 x4 x5 x6:Int}{t:TypeId}(h:W.heap[b]? =some (.cells #[.int .i64 x0,.int .i64 x1,.int .i64 x2,.int .i64 x3,.int .i64 x4,.int .i64 x5,.int .i64 x6] t (0,0)))(hi:i<7):∃x,W.cell? ⟨b,i,none⟩=some (.int .i64 x):=by
 rcases(by omega:i=0\/i=1\/i=2\/i=3\/i=4\/i=5\/i=6) with rfl|rfl|rfl|rfl|rfl|rfl|rfl
 all_goals exact⟨_,by simp[World.cell?,h];rfl⟩
theorem Q2v(w:World)(ck p q f:Int):Calls Tryz.prog 90 #[X0z ck p q f] w (Q8t 256 w):=by
 obtain⟨w1,hw1⟩:∃w1,(w.alloc (.cells (Zy ck p q f) 91)).alloc (.cells #[.int .u8 80,.int .u8 72,.int .u8 88,.int .u8 77] 5)=w1:=⟨_,rfl⟩
 have HBW:Sc (Below w.heap.size w w1):=⟨hw1▸((Below.refl _ _).alloc (Nat.le_refl _) _).alloc (by simp) _⟩
 have HB0:Sc (Below (w.heap.size+1) (w.alloc (.cells (Zy ck p q f) 91)) w1):=⟨hw1▸(Below.refl _ _).alloc (by simp) _⟩
 have HLE:Sc (w.heap.size+1<=w1.heap.size):=⟨by rw[<-hw1];simp⟩
 have HR0:Sc (RdB w1 (.slice (some ⟨w.heap.size+1,0,none⟩) 4 4) [80,72,88,77]):=⟨hw1▸by
  have:=X2n (heap_alloc_new (w.alloc (.cells (Zy ck p q f) 91)) (.cells #[.int .u8 80,.int .u8 72,.int .u8 88,.int .u8 77] 5)) (l:=[80,72,88,77]) rfl (by unfold maxLen;decide) rfl
  simpa using this⟩
 go_enter Tryz.func90,Tryz.ntmps90
 go_wp2_with fail
 clear hw1
 refine(Q2k _ _ [80,72,88,77] _ 256 HR0.o (by omega) (by decide) (by omega)).mono ?_
 rintro e w2 ⟨v2,rfl,ho,hb⟩
 have HB2:Sc (Below w.heap.size w w2):=⟨HBW.o.trans (hb.mono HBW.o.size)⟩
 have HLE2:Sc (w.heap.size+1<=w2.heap.size):=⟨Nat.le_trans HLE.o hb.size⟩
 have HO2:Sc (Own Yx 1 5 w.heap.size w2 v2 ([80,72,88,77]++List.replicate (256 - [80,72,88,77].length) 0)):=⟨ho.mono HBW.o.size⟩
 have HC:Sc (w2.heap[w.heap.size]? =some (.cells (Zy ck p q f) 91 (0,0))):=⟨((HB0.o.trans (hb.mono HLE.o)).block w.heap.size (by omega)).trans (heap_alloc_new w _)⟩
 obtain⟨c0,c1,c2,c3,c4,c5,c6⟩:=Gz HC.o
 obtain⟨w3,hw3⟩:∃w3,w2.alloc (.cells #[.int .i64 1,.int .i64 0,.int .i64 1,.int .i64 ck,.int .i64 p,.int .i64 q,.int .i64 f] 3)=w3:=⟨_,rfl⟩
 have HB3:Sc (Below w.heap.size w w3):=⟨hw3▸Q3 HB2.o _⟩
 have HO3:Sc (Own Yx 1 5 w.heap.size w3 v2 ([80,72,88,77]++List.replicate (256 - [80,72,88,77].length) 0)):=⟨hw3▸HO2.o.alloc _⟩
 obtain⟨lb,hlb⟩:∃lb,w2.heap.size=lb:=⟨_,rfl⟩
 have HC3:Sc (w3.heap[lb]? =some (.cells #[.int .i64 1,.int .i64 0,.int .i64 1,.int .i64 ck,.int .i64 p,.int .i64 q,.int .i64 f] 3 (0,0))):=⟨hw3▸hlb▸heap_alloc_new _ _⟩
 have HLB:Sc (lb<w3.heap.size):=⟨Q6 HC3.o⟩
 clear ho hb
 go_wp2_with fail
 try rw[hw3]
 try rw[hlb]
 go_loopg [3,5] 7 (fun kx s3 s5 wr=>∃(i:Nat) (fb:List Int),s5=.int .i64 i/\i<=7/\7 - i<=kx/\Sc (Own Yx 1 5 w.heap.size wr s3 fb)/\Sc (fb.length=256)/\Sc (Below w.heap.size w wr)/\Sc (Below w3.heap.size w3 wr))
 case atStart=>exact⟨0,_,rfl,by omega,by omega,HO3,⟨by decide⟩,HB3,⟨Below.refl _ _⟩⟩
 case round=>
  obtain⟨i,fb,rfl,hi,hg,HR,HF,HB,HBI⟩:=hrel
  by_cases hlt:i<7
  ·obtain⟨x,hx⟩:=Y7w (up HBI.o HC3.o) hlt
   have hil:(i:Int)<7:=by omega
   have hwi:IntKind.i64.wrap ((i:Int)+1)=(i:Int)+1:=IntWalk.i64_in _ ⟨by omega,by omega⟩
   have hw4:IntKind.i64.wrap (4*(i:Int))=4*(i:Int):=IntWalk.i64_in _ ⟨by omega,by omega⟩
   have hw5:IntKind.i64.wrap (4+4*(i:Int))=4+4*(i:Int):=IntWalk.i64_in _ ⟨by omega,by omega⟩
   clear c0 c1 c2 c3 c4 c5 c6
   go_wp2_with fail
   refine(Yq _ _ fb 256 _ _ (4+4*i) 4 _ HR.o.rd HF.o (by omega) (by omega) (by omega) (by omega) (by omega) (by omega)).mono ?_
   rintro e w4 ⟨v4,f4,rfl,hl4,ho4,hb4⟩
   have HB4:Sc (Below w.heap.size w w4):=⟨HB.o.trans (hb4.mono HB.o.size)⟩
   have HBI4:Sc (Below w3.heap.size w3 w4):=⟨HBI.o.trans (hb4.mono HBI.o.size)⟩
   have HO4:Sc (Own Yx 1 5 w.heap.size w4 v4 f4):=⟨ho4.mono HB.o.size⟩
   have HF4:=Q0 hl4
   clear ho4 hb4 hl4 hx
   go_wp2
   go_roundg (7 - (i+1))
   case measure=>omega
   case rel=>exact⟨i+1,f4,by go_num,by omega,Nat.le_refl _,HO4,HF4,HB4,HBI4⟩
  ·obtain rfl:i=7:=by omega
   clear c0 c1 c2 c3 c4 c5 c6
   go_wp2
   go_ret
   exact⟨_,fb,rfl,HF.o,HR.o,HB.o⟩
theorem Ef(D:Qw)(w:World)(ck p q f:Int)(h:Zb D w)(hok:Q3r ck p q f)(hn:1<=D.s.length)(hn2:D.s.length<=1000)(hvm:D.vm<=1000000):
  Calls Tryz.prog 49 #[.pointer (some ⟨D.db,0,none⟩),X0z ck p q f] w fun e w'=>e=.returned (.int .i64 0)/\∃D' g,Q8 (Qo D) (Qo D') w w'/\D'.db=D.db/\D'.c=D.c.set 0 g/\D'.vm=1:=by
 have HOK:=Q0 hok
 have HB:Sc (Below w.heap.size w (w.alloc (.cells (Zy ck p q f) 91))):=⟨Q3 (Below.refl _ _) _⟩
 have HC:=Q0 (heap_alloc_new w (.cells (Zy ck p q f) 91))
 obtain⟨w1,hw1⟩:∃w1,w.alloc (.cells (Zy ck p q f) 91)=w1:=⟨_,rfl⟩
 rw[hw1]at HB HC
 have HD1:Sc (Zb D w1):=⟨(Qo D).bel h HB.o⟩
 have HN:=Q0 hn
 have HN2:=Q0 hn2
 have HVM:=Q0 hvm
 obtain⟨c0,c1,c2,c3,c4,c5,c6⟩:=Gz HC.o
 obtain⟨db,hdb⟩:∃db,D.db=db:=⟨_,rfl⟩
 rw[hdb]
 have HDB:=Q0 hdb
 have HV1:Sc (1<=D.vm):=⟨by
  obtain⟨s,hs⟩:∃s,D.s[0]? =some s:=⟨_,List.getElem?_eq_getElem (by omega)⟩
  have:=h.Q5u s (List.mem_of_getElem? hs)
  have:=(h.sec hs).2.some_
  omega⟩
 clear h hok hn hn2 hvm hdb
 go_enter Tryz.func49,Tryz.ntmps49
 go_wp2_with fail
 refine(Q4h _ ck p q f HOK.o).mono ?_
 rintro e w2 ⟨rfl,hb⟩
 have HB2:=Q0 hb
 have HC2:Sc (w2.heap[w.heap.size]? =some (.cells (Zy ck p q f) 91 (0,0))):=⟨up hb HC.o⟩
 clear c0 c1 c2 c3 c4 c5 c6 hb
 obtain⟨c0,c1,c2,c3,c4,c5,c6⟩:=Gz HC2.o
 go_wp2_with fail
 refine(Q2v _ ck p q f).mono ?_
 rintro e w3 ⟨v3,f3,rfl,hl3,ho3,hb3⟩
 have HB3:Sc (Below w.heap.size w w3):=⟨HB.o.trans ((HB2.o.trans (hb3.mono HB2.o.size)).mono HB.o.size)⟩
 have HD3:Sc (Zb D w3):=⟨(Qo D).bel ((Qo D).bel HD1.o HB2.o) hb3⟩
 have HR3:=Q0 ho3.rd
 have HL3:=Q0 hl3
 have HW:Sc (Calls Tryz.prog 89 #[.pointer (some ⟨db,0,none⟩),.int .i64 0,v3] w3 fun e w'=>e=.returned (.int .i64 0)/\∃D',Q8 (Qo D) (Qo D') w3 w'/\D'.db=D.db/\D'.c=D.c.set 0 f3/\D'.vm<=D.vm+1):=⟨by
  have:=V9 D w3 0 v3 f3 HD3.o HN.o HR3.o HL3.o HVM.o
  rw[HDB.o]at this ⊢
  exact this⟩
 clear c0 c1 c2 c3 c4 c5 c6 hl3 ho3 hb3
 go_wp2_with fail
 refine HW.o.mono ?_
 rintro e w4 ⟨rfl,D4,hl4,hd4,hc4,hv4⟩
 have HL4:=Q0 hl4
 have HD4:Sc (D4.db=db):=⟨by rw[hd4,HDB.o]⟩
 have HC4:=Q0 hc4
 have HV4:Sc (1<=D4.vm/\D4.s.length<=1000):=⟨by
  have hlen:D4.s.length=D.s.length:=by
   have:=congrArg List.length hc4
   rw[List.length_set]at this
   unfold Qw.c at this
   rw[List.length_map,List.length_map]at this
   exact this
  obtain⟨s,hs⟩:∃s,D4.s[0]? =some s:=⟨_,List.getElem?_eq_getElem (by have:=HN.o;omega)⟩
  have:=hl4.1.Q5u s (List.mem_of_getElem? hs)
  have:=(hl4.1.sec hs).2.some_
  have:=HN2.o
  omega⟩
 have HS:Sc (Calls Tryz.prog 91 #[.pointer (some ⟨db,0,none⟩)] w4 fun e w'=>e=.returned (.int .i64 0)/\Q8 (Qo D4) (Qo D4.done) w4 w'):=⟨by
  have:=Ov D4 w4 HL4.o.1 HV4.o.1 HV4.o.2
  rw[HD4.o]at this
  exact this⟩
 clear hl4 hd4 hc4 hv4
 go_wp2_with fail
 refine HS.o.mono ?_
 rintro e w5 ⟨rfl,hl5⟩
 have HL5:=Q0 hl5
 clear hl5
 go_wp2
 go_ret
 exact⟨rfl,D4.done,f3,Part.from_ (Part.trans HL4.o HL5.o) HB3.o,HD4.o,by rw[Q4e];exact HC4.o,rfl⟩
end
def RdR(w:World)(b off:Nat)(M:List Q9):Prop:=∀k r,M[k]? =some r->
 w.cell? ⟨b,off+k*10,none⟩=some (.int .i64 r.kind)/\w.cell? ⟨b,off+k*10+1,none⟩=some (.int .i64 r.txn)/\w.cell? ⟨b,off+k*10+2,none⟩=some (.int .i64 r.page)/\w.cell? ⟨b,off+k*10+3,none⟩=some (.int .i64 r.prev)/\w.cell? ⟨b,off+k*10+4,none⟩=some (.int .i64 r.next)/\
 w.cell? ⟨b,off+k*10+5,none⟩=some (.int .i64 r.key)/\w.cell? ⟨b,off+k*10+6,none⟩=some (.bool r.had)/\w.cell? ⟨b,off+k*10+7,none⟩=some (.bool r.has)/\w.cell? ⟨b,off+k*10+8,none⟩=some (.int .i64 r.old)/\w.cell? ⟨b,off+k*10+9,none⟩=some (.int .i64 r.new)
theorem RdR.bel{w w':World}{b off:Nat}{M:List Q9}(h:RdR w b off M)(hb:Below w.heap.size w w'):RdR w' b off M:=fun k r hr=>by
 obtain⟨c0,c1,c2,c3,c4,c5,c6,c7,c8,c9⟩:=h k r hr
 have up1:∀o v,w.cell? ⟨b,o,none⟩=some v->w'.cell? ⟨b,o,none⟩=some v:=fun o v hv=>(hb.cell (World.block_lt_of_cell? _ _ hv)).trans hv
 exact⟨up1 _ _ c0,up1 _ _ c1,up1 _ _ c2,up1 _ _ c3,up1 _ _ c4,up1 _ _ c5,up1 _ _ c6,up1 _ _ c7,up1 _ _ c8,up1 _ _ c9⟩
def X5e:List Int:=[80,72,88,66,0,0,0,0,0,0,0,0,0,0,0,0]
theorem X1q(w:World)(v:Value)(f:List Int)(s:Int)(size:Nat)(hrd:RdB w v f)(hs:s=size)(hlen:f.length<=size)(hsz:size<=1000000):
  Calls Tryz.prog 133 #[v,.int .i64 s] w (Q8t size w):=
 (Q2k w v f s size hrd hs (by omega) hsz).mono fun e w' ⟨v',he,ho,hb⟩=>⟨v',_,he,by rw[List.length_append,List.length_replicate];omega,ho,hb⟩
set_option maxRecDepth 4000 in
set_option maxHeartbeats 4000000 in
theorem Ej(w:World)(b off cap:Nat)(M:List Q9)(hrd:RdR w b off M)(h1:1<=M.length)(h6:M.length<=6)(hgood:∀r∈M,Qq r=true)(hcap:M.length<=cap):
  Calls Tryz.prog 146 #[.int .i64 1,.slice (some ⟨b,off,none⟩) M.length cap] w fun e w'=>∃v f,e=.returned (.tuple #[v,.int .i64 0])/\f.length=256/\Own Yx 1 5 w.heap.size w' v f/\Below w.heap.size w w':=by
 obtain⟨i0,hi0,hz0,hz1,hz2⟩:=info_parts Q4k
 have HRD:=Q0 hrd
 have HGD:=Q0 hgood
 obtain⟨n,hn⟩:∃n,M.length=n:=⟨_,rfl⟩
 rw[hn]at h1 h6 hcap ⊢
 have HN:=Q0 hn
 obtain⟨w1,hw1⟩:∃w1,w.alloc (.cells #[.int .u8 80,.int .u8 72,.int .u8 88,.int .u8 66,.int .u8 0,.int .u8 0,.int .u8 0,.int .u8 0,.int .u8 0,.int .u8 0,.int .u8 0,.int .u8 0,.int .u8 0,.int .u8 0,.int .u8 0,.int .u8 0] 5)=w1:=⟨_,rfl⟩
 have HBW:Sc (Below w.heap.size w w1):=⟨hw1▸(Below.refl _ _).alloc (Nat.le_refl _) _⟩
 have HR0:Sc (RdB w1 (.slice (some ⟨w.heap.size,0,none⟩) 16 16) X5e):=⟨hw1▸X2n (heap_alloc_new w (.cells #[.int .u8 80,.int .u8 72,.int .u8 88,.int .u8 66,.int .u8 0,.int .u8 0,.int .u8 0,.int .u8 0,.int .u8 0,.int .u8 0,.int .u8 0,.int .u8 0,.int .u8 0,.int .u8 0,.int .u8 0,.int .u8 0] 5)) (l:=X5e) rfl (by unfold maxLen;decide) rfl⟩
 clear hrd hgood hn
 go_enter Tryz.func146,Tryz.ntmps146
 go_wp2_with fail
 refine(Eo _ _ _ _ (by omega) (by omega)).mono ?_
 rintro e w' ⟨rfl,rfl⟩
 go_wp2_with fail
 refine(Eo _ _ _ _ (by omega) (by omega)).mono ?_
 rintro e w' ⟨rfl,rfl⟩
 go_wp2_with fail
 clear hw1
 refine(Yq _ _ X5e 16 _ _ 4 4 _ HR0.o rfl (by omega) (by omega) (by omega) (by omega) (by omega) (by omega)).mono ?_
 rintro e w2 ⟨v2,f2,rfl,hl2,ho2,hb2⟩
 have HB2:Sc (Below w.heap.size w w2):=⟨HBW.o.trans (hb2.mono HBW.o.size)⟩
 have HL2:=Q0 hl2
 have HR2:=Q0 ho2.rd
 clear hl2 ho2 hb2
 go_wp2_with fail
 refine(Yq _ _ f2 16 _ _ 8 2 _ HR2.o HL2.o (by omega) (by omega) (by omega) (by omega) (by omega) (by omega)).mono ?_
 rintro e w3 ⟨v3,f3,rfl,hl3,ho3,hb3⟩
 have HB3:Sc (Below w.heap.size w w3):=⟨HB2.o.trans (hb3.mono HB2.o.size)⟩
 have HL3:=Q0 hl3
 have HO3:Sc (Own Yx 1 5 w.heap.size w3 v3 f3):=⟨ho3.mono HB2.o.size⟩
 clear hl3 ho3 hb3
 go_wp2_with fail
 go_loopg [6,7] n (fun kx s6 s7 wr=>∃(i:Nat) (fb:List Int),s7=.int .i64 i/\i<=n/\n - i<=kx/\Sc (Own Yx 1 5 w.heap.size wr s6 fb)/\Sc (fb.length=16+40*i)/\Sc (Below w.heap.size w wr))
 case atStart=>exact⟨0,f3,rfl,by omega,by omega,HO3,⟨by rw[HL3.o]⟩,HB3⟩
 case round=>
  obtain⟨i,fb,rfl,hi,hg,HR,HF,HB⟩:=hrel
  by_cases hlt:i<n
  ·obtain⟨r,hr⟩:∃r,M[i]? =some r:=⟨_,List.getElem?_eq_getElem (by rw[HN.o];exact hlt)⟩
   obtain⟨c0,c1,c2,c3,c4,c5,c6,c7,c8,c9⟩:=(HRD.o.bel HB.o) i r hr
   have HG:Sc (Qq r=true):=⟨HGD.o r (List.mem_of_getElem? hr)⟩
   have HX:=Q0 hr
   have hil:(i:Int)<n:=by omega
   have hwi:IntKind.i64.wrap ((i:Int)+1)=(i:Int)+1:=IntWalk.i64_in _ ⟨by omega,by omega⟩
   clear hr
   go_wp2_with fail
   refine(Uy _ r).mono ?_
   rintro e w4 ⟨rfl,hb4⟩
   rw[HG.o]
   have HB4:Sc (Below w.heap.size w w4):=⟨HB.o.trans (hb4.mono HB.o.size)⟩
   have HO4:=Q0 (HR.o.below hb4)
   clear c0 c1 c2 c3 c4 c5 c6 c7 c8 c9 hb4
   obtain⟨c0,c1,c2,c3,c4,c5,c6,c7,c8,c9⟩:=(HRD.o.bel HB4.o) i r HX.o
   go_wp2_with fail
   refine(Q9z _ r).mono ?_
   rintro e w5 ⟨v5,f5,rfl,hl5,ho5,hb5⟩
   have HB5:Sc (Below w.heap.size w w5):=⟨HB4.o.trans (hb5.mono HB4.o.size)⟩
   have HO5:=Q0 (HO4.o.below hb5)
   obtain⟨g5,k5,rfl,_⟩:=ho5.form (by rw[hl5];omega)
   rw[hl5]at ho5 ⊢
   have HP5:=Q0 ho5
   have HL5:=Q0 hl5
   have HNW:Sc (∀j u,(flat Yx f5)[j]? =some u->w5.cell? ((⟨g5,0,none⟩:Addr).add j)=some u):=⟨World.ownsRow.cells (g:=g5) (ho5.rows hl5) rfl⟩
   have HM1:Sc (16+40*i+40<=maxLen):=⟨by unfold maxLen;omega⟩
   have HM2:Sc ((16+40*i+40)*1<=140737488355328):=⟨by omega⟩
   clear c0 c1 c2 c3 c4 c5 c6 c7 c8 c9 hb5 ho5 hl5
   go_wp2_with (at_builtin;go_loud (refine wpList_append_lies _ rfl (.tmp 39) (.tmp 44) 155 rfl w.heap.size 5 i0 (.int .u8 0) 1 1 Tryz.underlying155 hi0 hz0 hz1 hz2 rfl (by decide) _ (16+40*i) (flat Yx fb) rfl (HO5.o.rows HF.o) ⟨g5,0,none⟩ 40 k5 (flat Yx f5) rfl (by rw[Ee.Qp,HL5.o]) HNW.o (Ee.Xk f5) (by decide) HM1.o HM2.o HB5.o.size _ rfl ?_))
   intro g6 k6 w6 how hgr hat hlt6
   have HO6:Sc (Own Yx 1 5 w.heap.size w6 (.slice (some ⟨g6,0,none⟩) (16+40*i+40) k6) (fb++f5)):=⟨Own.Qv how (by rw[List.length_append,HF.o,HL5.o]) (by rw[Qc])⟩
   have HB6:Sc (Below w.heap.size w w6):=⟨HB5.o.grown hgr HB5.o.size (fun k hk=>(HO5.o.lt k hk).1)⟩
   have HF6:Sc ((fb++f5).length=16+40*(i+1)):=⟨by rw[List.length_append,HF.o,HL5.o];omega⟩
   clear how hgr hat hlt6
   go_wp2
   go_roundg (n - (i+1))
   case measure=>omega
   case rel=>exact⟨i+1,_,by go_num,by omega,Nat.le_refl _,HO6,HF6,HB6⟩
  ·obtain rfl:i=n:=by omega
   have HFN:Sc (fb.length<=256):=⟨by rw[HF.o];omega⟩
   go_wp2_with fail
   refine(X1q _ _ fb _ 256 HR.o.rd (by omega) HFN.o (by omega)).mono ?_
   rintro e w4 ⟨v4,f4,rfl,hl4,ho4,hb4⟩
   have HE:Sc (Own Yx 1 5 w.heap.size w4 v4 f4/\Below w.heap.size w w4/\f4.length=256):=⟨ho4.mono HB.o.size,HB.o.trans (hb4.mono HB.o.size),hl4⟩
   clear hl4 ho4 hb4
   go_wp2
   go_ret2
   exact⟨v4,f4,rfl,HE.o.2.2,HE.o.1,HE.o.2.1⟩
section
set_option maxHeartbeats 1000000
set_option maxRecDepth 4000
structure Yw(w:World)(sb:Nat)(f k:Int):Prop where
 at_:w.heap[sb]? =some (.cells #[.int .i64 f,.int .i64 k] 194 (0,0))
 f0:0<=f
 f1:f<=1000000
 k0:0<=k
 k1:k<=1000000
theorem Yw.kp{w w':World}{sb:Nat}{f k:Int}{S:Nat->Prop}(h:Yw w sb f k)(hk:Kp S w w')(hn:¬S sb):Yw w' sb f k:=⟨hk.at h.at_ hn,h.f0,h.f1,h.k0,h.k1⟩
theorem Yw.cells{w:World}{sb:Nat}{f k:Int}(h:Yw w sb f k):w.cell? ⟨sb,0,none⟩=some (.int .i64 f)/\w.cell? ⟨sb,1,none⟩=some (.int .i64 k)/\w.frozen? ⟨sb,0,none⟩=false/\w.frozen? ⟨sb,1,none⟩=false/\sb<w.heap.size:=
 ⟨by simp[World.cell?,h.at_],by simp[World.cell?,h.at_],Q2 h.at_ 0,Q2 h.at_ 1,Q6 h.at_⟩
theorem C8(w:World)(n:Int)(h0:0<=n)(h1:n<=1000000):Calls Tryz.prog 137 #[.int .i64 n] w fun e w'=>e=.returned (.bool true)/\w=w':=by
 have e1:decide ((0:Int)<=n)=true:=decide_eq_true h0
 have e2:decide (n<=1073741824)=true:=decide_eq_true (by omega)
 go_enter Tryz.func137,Tryz.ntmps137
 go_wp2
 go_ret
 exact⟨rfl,rfl⟩
theorem Q0q(w:World)(sb:Nat)(f k u q:Int)(h:Yw w sb f k)(hu:0<=u)(hu1:u<=1000000)(hq:0<=q)(hq1:q<=1000000)(hs:k+q<=1000000):
  Calls Tryz.prog 95 #[.pointer (some ⟨sb,0,none⟩),.int .i64 u,.int .i64 q] w fun e w'=>Kp (fun b=>b=sb) w w'/\((f<u+q/\e=.returned (.int .i64 109)/\Yw w' sb f k)\/(u+q<=f/\e=.returned (.int .i64 0)/\Yw w' sb (f - u - q) (k+q))):=by
 have HH:=Q0 h
 obtain⟨c0,c1,z0,z1,lt⟩:=h.cells
 have f0:=h.f0
 have f1:=h.f1
 have k0:=h.k0
 have k1:=h.k1
 have w1:IntKind.i64.wrap (u+q)=u+q:=IntWalk.i64_in _ ⟨by omega,by omega⟩
 clear h
 go_enter Tryz.func95,Tryz.ntmps95
 go_wp2_with fail
 refine(C8 w u hu hu1).mono ?_
 rintro e w1 ⟨rfl,rfl⟩
 go_wp2_with fail
 refine(C8 w q hq hq1).mono ?_
 rintro e w1 ⟨rfl,rfl⟩
 by_cases hc:f<u+q
 ·have d:decide (f<u+q)=true:=decide_eq_true hc
  have HC:=Q0 hc
  clear hc
  go_wp2
  go_ret
  exact⟨Kp.refl _ _,.inl ⟨HC.o,rfl,HH.o⟩⟩
 ·have d:decide (f<u+q)=false:=decide_eq_false hc
  have w2:IntKind.i64.wrap (f - u)=f - u:=IntWalk.i64_in _ ⟨by omega,by omega⟩
  have w3:IntKind.i64.wrap (f - u - q)=f - u - q:=IntWalk.i64_in _ ⟨by omega,by omega⟩
  have w4:IntKind.i64.wrap (k+q)=k+q:=IntWalk.i64_in _ ⟨by omega,by omega⟩
  have HC:Sc (u+q<=f):=⟨by omega⟩
  clear hc
  go_wp2
  go_ret
  refine⟨(Kp.setCell w ⟨sb,0,none⟩ _).trans (Kp.setCell _ ⟨sb,1,none⟩ _) (fun _ hq=> .inl hq),.inr ⟨HC.o,rfl,?_,by have:=HC.o;omega,by have:=HC.o;omega,by have:=HC.o;omega,by have:=HC.o;omega⟩⟩
  rw[Qn (Qn HH.o.at_ 0 _) 1 _];rfl
theorem Ey(w:World)(sb:Nat)(f k n:Int)(h:Yw w sb f k)(h0:0<=n)(h1:n<=1000000):
  Calls Tryz.prog 106 #[.pointer (some ⟨sb,0,none⟩),.int .i64 n] w fun e w'=>Kp (fun b=>b=sb) w w'/\((k<n/\e=.returned (.bool false)/\Yw w' sb f k)\/(n<=k/\e=.returned (.bool true)/\Yw w' sb f (k - n))):=by
 have HH:=Q0 h
 obtain⟨c0,c1,z0,z1,lt⟩:=h.cells
 have f0:=h.f0
 have f1:=h.f1
 have k0:=h.k0
 have k1:=h.k1
 clear h
 go_enter Tryz.func106,Tryz.ntmps106
 go_wp2_with fail
 refine(C8 w n h0 h1).mono ?_
 rintro e w1 ⟨rfl,rfl⟩
 by_cases hc:k<n
 ·have d:decide (k<n)=true:=decide_eq_true hc
  have HC:=Q0 hc
  clear hc
  go_wp2
  go_ret
  exact⟨Kp.refl _ _,.inl ⟨HC.o,rfl,HH.o⟩⟩
 ·have d:decide (k<n)=false:=decide_eq_false hc
  have w2:IntKind.i64.wrap (k - n)=k - n:=IntWalk.i64_in _ ⟨by omega,by omega⟩
  have HC:Sc (n<=k):=⟨by omega⟩
  clear hc
  go_wp2
  go_ret
  refine⟨Kp.setCell w ⟨sb,1,none⟩ _,.inr ⟨HC.o,rfl,?_,by have:=HC.o;omega,by have:=HC.o;omega,by have:=HC.o;omega,by have:=HC.o;omega⟩⟩
  rw[Qn HH.o.at_ 1 _];rfl
theorem X0e(w:World)(sb:Nat)(f k n:Int)(h:Yw w sb f k)(h0:0<=n)(h1:n<=1000000)(hs:f+n<=1000000):
  Calls Tryz.prog 97 #[.pointer (some ⟨sb,0,none⟩),.int .i64 n] w fun e w'=>Kp (fun b=>b=sb) w w'/\((k<n/\e=.returned (.bool false)/\Yw w' sb f k)\/(n<=k/\e=.returned (.bool true)/\Yw w' sb (f+n) (k - n))):=by
 have HH:=Q0 h
 clear h
 go_enter Tryz.func97,Tryz.ntmps97
 go_wp2_with fail
 refine(Ey w sb f k n HH.o h0 h1).mono ?_
 rintro e w1 ⟨hk,⟨hlt,rfl,hs1⟩|⟨hle,rfl,hs1⟩⟩
 ·have HS:=Q0 hs1
  have HK:=Q0 hk
  have HC:=Q0 hlt
  clear hs1 hk hlt
  go_wp2
  go_ret
  exact⟨HK.o,.inl ⟨HC.o,rfl,HS.o⟩⟩
 ·have HS:=Q0 hs1
  have HK:=Q0 hk
  have HC:=Q0 hle
  obtain⟨c0,c1,z0,z1,lt⟩:=hs1.cells
  have f0:=hs1.f0
  have w2:IntKind.i64.wrap (f+n)=f+n:=IntWalk.i64_in _ ⟨by omega,by omega⟩
  clear hs1 hk hle
  go_wp2
  go_ret
  refine⟨HK.o.trans (Kp.setCell w1 ⟨sb,0,none⟩ _) (fun _ hq=> .inl hq),.inr ⟨HC.o,rfl,?_,by omega,by omega,HS.o.k0,HS.o.k1⟩⟩
  rw[Qn HS.o.at_ 0 _];rfl
end
section
set_option maxHeartbeats 1000000
theorem Q9p(w:World)(n:Int)(h0:0<=n)(h1:n<=1000000):Calls Tryz.prog 92 #[.int .i64 n] w fun e w'=>e=.returned (.pointer (some ⟨w.heap.size,0,none⟩))/\Yw w' w.heap.size n 0/\Below w.heap.size w w':=by
 by_cases hz:n=0
 ·subst hz
  go_enter Tryz.func92,Tryz.ntmps92
  go_wp2
  all_goals
   go_ret
   exact⟨rfl,⟨heap_alloc_new w _,by omega,by omega,by omega,by omega⟩,Q3 (Below.refl _ _) _⟩
 ·have d1:¬n<0:=by omega
  have d2:¬(0:Int)=n:=fun h=>hz h.symm
  have d3:(0:Int)<n:=by omega
  have d4:¬(1073741824:Int)<n:=by omega
  have d5:n<1073741824:=by omega
  have H:=Q0 (And.intro h0 h1)
  go_enter Tryz.func92,Tryz.ntmps92
  go_wp2
  all_goals
   go_ret
   exact⟨rfl,⟨heap_alloc_new w _,H.o.1,H.o.2,by omega,by omega⟩,Q3 (Below.refl _ _) _⟩
theorem X4e(w:World)(db:Nat)(fi bl bs:Int):Calls Tryz.prog 23 #[.pointer (some ⟨db,0,none⟩),.int .i64 fi,.int .i64 bl,.int .i64 bs,.int .i64 1] w fun e w'=>e=.returned (.pointer (some ⟨w.heap.size,0,none⟩))/\Jb ⟨db,fi,bl,bs⟩ w' w.heap.size none [] bs/\Below w.heap.size w w':=by
 go_enter Tryz.func23,Tryz.ntmps23
 go_wp2
 go_ret
 exact⟨rfl,⟨⟨none,0,0,rfl,heap_alloc_new w _,Own.nil⟩,by simp⟩,Q3 (Below.refl _ _) _⟩
theorem X2e(w:World)(db lb:Nat)(n:Int)(h1:1<=n)(h8:n<=8):Calls Tryz.prog 52 #[.pointer (some ⟨db,0,none⟩),.pointer (some ⟨lb,0,none⟩),.int .i64 n] w fun e w'=>e=.returned (.pointer (some ⟨w.heap.size,0,none⟩))/\w'.heap[w.heap.size]? =some (.cells #[.pointer (some ⟨db,0,none⟩),.pointer (some ⟨lb,0,none⟩),.int .i64 n,.slice none 0 0,.slice none 0 0] 186 (0,0))/\Below w.heap.size w w':=by
 rcases(by omega:n=1\/n=2\/n=3\/n=4\/n=5\/n=6\/n=7\/n=8) with rfl|rfl|rfl|rfl|rfl|rfl|rfl|rfl
 all_goals
  go_enter Tryz.func52,Tryz.ntmps52
  go_wp2
  go_ret
  exact⟨rfl,heap_alloc_new w _,Q3 (Below.refl _ _) _⟩
theorem X1r(w:World)(n:Int)(h0:0<=n)(h1:n<=1000):Calls Tryz.prog 50 #[.int .i64 n] w fun e w'=>e=.returned (.int .i64 (n+1))/\w=w':=by
 have hw:IntKind.i64.wrap (n+1)=n+1:=IntWalk.i64_in _ ⟨by omega,by omega⟩
 go_enter Tryz.func50,Tryz.ntmps50
 go_wp2
 go_ret
 exact⟨rfl,rfl⟩
end
end Go.Proofs.YtoapihepdallbaaGreatDoor
