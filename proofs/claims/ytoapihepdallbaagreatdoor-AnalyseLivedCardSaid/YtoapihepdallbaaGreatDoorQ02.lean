import Derived.Test.YtoapihepdallbaaGreatDoorQ01
namespace Go.Proofs.YtoapihepdallbaaGreatDoor
open Go.RowKit
set_option maxHeartbeats 8000000
theorem G4.low{B lb:Nat}{w w':World}{row:Option Nat}{L:List Q9}{bs:Int}(h:G4 w lb row L bs)(hb:Below B w w')(h1:lb<B)(h2:∀q,row=some q->q<B):G4 w' lb row L bs:=
 h.kp (S:=fun q=>B<=q) ⟨hb.os,hb.tape,hb.output,hb.size,fun k hk hn=>hb.block k (by omega)⟩ (by omega) (fun q hq=>by have:=h2 q hq;omega)
def Y7q(B fb lb:Nat)(L:List Q9)(bs pages Xe:Int)(e:Ending)(w':World):Prop:=
 (∃p,e=.returned (.tuple #[.int .i64 0,Oc 108 p])/\Zc L bs pages Xe=(some p,An.zero false))\/
 ∃(i:Nat) (rt rd:Option Nat) (s:An),e=.returned (.tuple #[.int .i64 (bs+1+i),X5 0])/\i<L.length/\s.t.length<=i/\s.d.length<=i/\s.ins=false/\Seen s/\Z2 B w' fb lb rt rd s/\
  Zc L bs pages Xe=Y7 (bs+L.length) (Xz bs (bs+1+((i+1:Nat):Int)) (L.drop (i+1)) s)
theorem Y3k(bs lsn:Int)(r:Q9){s:An}(h:s.ins=true):Xc bs lsn r s=J2 bs lsn r s:=by unfold Xc;rw[if_pos h]
theorem Y0i{bs lsn:Int}{r:Q9}{s:An}(h:r.kind=8):J2 bs lsn r s=(decide (r.prev<lsn)&&decide (r.next<lsn),{s with t:=Qt s.t (r.txn,r.key,r.prev,r.next),m:=max s.m r.txn}):=by unfold J2;rw[if_pos h]
theorem X6l{bs lsn:Int}{r:Q9}{s:An}(h:r.kind=9):J2 bs lsn r s=(decide (bs<r.prev)&&decide (r.prev<lsn),{s with d:=add s.d (r.page,r.prev)}):=by unfold J2;rw[if_neg (by omega),if_pos h]
theorem Y0h{bs lsn:Int}{r:Q9}{s:An}(h:r.kind=10):J2 bs lsn r s=(true,{s with m:=max s.m r.next,ins:=false}):=by unfold J2;rw[if_neg (by omega),if_neg (by omega),if_pos h]
theorem Y3j{bs lsn:Int}{r:Q9}{s:An}(h:r.kind≠8/\r.kind≠9/\r.kind≠10):J2 bs lsn r s=(false,s):=by unfold J2;rw[if_neg h.1,if_neg h.2.1,if_neg h.2.2]
theorem Y0a{L:List Q9}{bs:Int}:Qx L bs (bs+1+(L.length:Int))=none:=Ge (.inr (by omega))
structure Two(B:Nat)(w:World)(fb b5 b6:Nat)(rt rd:Option Nat)(r:Q9):Prop where
 flt:w.heap[b5]? =some (.cells fz 41 (0,0))
 rcd:w.heap[b6]? =some (.cells (Qe r) 49 (0,0))
 n5:b5≠fb/\rt≠some b5/\rd≠some b5
 n6:b6≠fb/\rt≠some b6/\rd≠some b6
 ne:b5≠b6
 low:B<=b5/\B<=b6
theorem Two.left{B fb lb b5 b6:Nat}{w w':World}{rt rd:Option Nat}{r:Q9}{s':An}(h:Two B w fb b5 b6 rt rd r)(hl:Y0 B fb lb rt rd s' w w'):∃rt' rd',Z2 B w' fb lb rt' rd' s'/\Two B w' fb b5 b6 rt' rd' r:=by
 have h5:=hl.at_ h.flt h.n5
 have h6:=hl.at_ h.rcd h.n6
 obtain⟨rt',rd',hf,_,ht,hd⟩:=hl
 have l5:=Q6 h.flt
 have l6:=Q6 h.rcd
 refine⟨rt',rd',hf,h5,h6,⟨h.n5.1,fun he=> ?_,fun he=> ?_⟩,⟨h.n6.1,fun he=> ?_,fun he=> ?_⟩,h.ne,h.low⟩
 ·rcases ht _ he with h'|h'
  ·exact h.n5.2.1 h'
  ·omega
 ·rcases hd _ he with h'|h'
  ·exact h.n5.2.2 h'
  ·omega
 ·rcases ht _ he with h'|h'
  ·exact h.n6.2.1 h'
  ·omega
 ·rcases hd _ he with h'|h'
  ·exact h.n6.2.2 h'
  ·omega
theorem Two.bel{B fb b5 b6:Nat}{w w':World}{rt rd:Option Nat}{r:Q9}(h:Two B w fb b5 b6 rt rd r)(hb:Below w.heap.size w w'):Two B w' fb b5 b6 rt rd r:=⟨up hb h.flt,up hb h.rcd,h.n5,h.n6,h.ne,h.low⟩
theorem Ve{w:World}{b:Nat}{t:TypeId}{r r':Q9}(j:Nat)(u:Value)(h:w.heap[b]? =some (.cells (Qe r) t (0,0)))(he:(Qe r).setIfInBounds j u=Qe r'):(w.setCell ⟨b,j,none⟩ u).heap[b]? =some (.cells (Qe r') t (0,0)):=by rw[Qn h j u,he]
theorem Y3i{w:World}{b:Nat}{t:TypeId}{r x:Q9}(h:w.heap[b]? =some (.cells (Qe r) t (0,0))):
  ((((((((((w.setCell ⟨b,0,none⟩ (.int .i64 x.kind)).setCell ⟨b,1,none⟩ (.int .i64 x.txn)).setCell ⟨b,2,none⟩ (.int .i64 x.page)).setCell ⟨b,3,none⟩ (.int .i64 x.prev)).setCell ⟨b,4,none⟩ (.int .i64 x.next)).setCell ⟨b,5,none⟩ (.int .i64 x.key)).setCell ⟨b,6,none⟩ (.bool x.had)).setCell ⟨b,7,none⟩ (.bool x.has)).setCell ⟨b,8,none⟩ (.int .i64 x.old)).setCell ⟨b,9,none⟩ (.int .i64 x.new)).heap[b]? =some (.cells (Qe x) t (0,0)):=by
 have h0:=Ve (r':={r with kind:=x.kind}) 0 (.int .i64 x.kind) h rfl
 have h1:=Ve (r':={r with kind:=x.kind,txn:=x.txn}) 1 (.int .i64 x.txn) h0 rfl
 have h2:=Ve (r':={r with kind:=x.kind,txn:=x.txn,page:=x.page}) 2 (.int .i64 x.page) h1 rfl
 have h3:=Ve (r':={r with kind:=x.kind,txn:=x.txn,page:=x.page,prev:=x.prev}) 3 (.int .i64 x.prev) h2 rfl
 have h4:=Ve (r':={r with kind:=x.kind,txn:=x.txn,page:=x.page,prev:=x.prev,next:=x.next}) 4 (.int .i64 x.next) h3 rfl
 have h5:=Ve (r':={r with kind:=x.kind,txn:=x.txn,page:=x.page,prev:=x.prev,next:=x.next,key:=x.key}) 5 (.int .i64 x.key) h4 rfl
 have h6:=Ve (r':={r with kind:=x.kind,txn:=x.txn,page:=x.page,prev:=x.prev,next:=x.next,key:=x.key,had:=x.had}) 6 (.bool x.had) h5 rfl
 have h7:=Ve (r':={r with kind:=x.kind,txn:=x.txn,page:=x.page,prev:=x.prev,next:=x.next,key:=x.key,had:=x.had,has:=x.has}) 7 (.bool x.has) h6 rfl
 have h8:=Ve (r':={r with kind:=x.kind,txn:=x.txn,page:=x.page,prev:=x.prev,next:=x.next,key:=x.key,had:=x.had,has:=x.has,old:=x.old}) 8 (.int .i64 x.old) h7 rfl
 have h9:=Ve (r':=x) 9 (.int .i64 x.new) h8 rfl
 exact h9
theorem Y2k{w:World}{b:Nat}{u0 u1 u2 u3 u4 u5 u6 u7 u8 u9:Value}:Kp (fun q=>q=b) w ((((((((((w.setCell ⟨b,0,none⟩ u0).setCell ⟨b,1,none⟩ u1).setCell ⟨b,2,none⟩ u2).setCell ⟨b,3,none⟩ u3).setCell ⟨b,4,none⟩ u4).setCell ⟨b,5,none⟩ u5).setCell ⟨b,6,none⟩ u6).setCell ⟨b,7,none⟩ u7).setCell ⟨b,8,none⟩ u8).setCell ⟨b,9,none⟩ u9):=
 (((((((((Kp.setCell w ⟨b,0,none⟩ u0).trans (Kp.setCell _ ⟨b,1,none⟩ u1) (fun _ hq=> .inl hq)).trans (Kp.setCell _ ⟨b,2,none⟩ u2) (fun _ hq=> .inl hq)).trans (Kp.setCell _ ⟨b,3,none⟩ u3) (fun _ hq=> .inl hq)).trans (Kp.setCell _ ⟨b,4,none⟩ u4) (fun _ hq=> .inl hq)).trans (Kp.setCell _ ⟨b,5,none⟩ u5) (fun _ hq=> .inl hq)).trans (Kp.setCell _ ⟨b,6,none⟩ u6) (fun _ hq=> .inl hq)).trans (Kp.setCell _ ⟨b,7,none⟩ u7) (fun _ hq=> .inl hq)).trans (Kp.setCell _ ⟨b,8,none⟩ u8) (fun _ hq=> .inl hq)).trans (Kp.setCell _ ⟨b,9,none⟩ u9) (fun _ hq=> .inl hq)
theorem Ox{B b:Nat}{w0 w:World}{u0 u1 u2:Value}(h:Below B w0 w)(hb:B<=b):Below B w0 (((w.setCell ⟨b,0,none⟩ u0).setCell ⟨b,1,none⟩ u1).setCell ⟨b,2,none⟩ u2):=((h.setCell hb _).setCell hb _).setCell hb _
theorem Two.X3r{B fb b5 b6:Nat}{w w':World}{rt rd:Option Nat}{r x:Q9}(h:Two B w fb b5 b6 rt rd r)(hk:Kp (fun q=>q=b6) w w')(hx:w'.heap[b6]? =some (.cells (Qe x) 49 (0,0))):Two B w' fb b5 b6 rt rd x:=⟨hk.at h.flt h.ne,hx,h.n5,h.n6,h.ne,h.low⟩
variable{B fb lb:Nat}{row:Option Nat}{L:List Q9}{bs:Int}
set_option maxRecDepth 8000 in
theorem Y2v(w:World)(pages Xe:Int)(h:Z2 B w fb lb none none (An.zero true))(hl:G4 w lb row L bs)(hlb:lb<B/\∀q,row=some q->q<B)(hlen:L.length<=1000)(h0:0<=bs)(h1:bs<=1000)(hbn:Xu pages (bs+1) L=none)(hck:Xe≠0):
  Calls Tryz.prog 39 #[.pointer (some ⟨fb,0,none⟩),.int .i64 Xe] w fun e w'=>Y7q B fb lb L bs pages Xe e w'/\Below B w w':=by
 have hBw:B<=w.heap.size:=Nat.le_trans h.X5n (Nat.le_of_lt h.lt)
 have HBW:=Q0 hBw
 have HB1:Sc (Below w.heap.size w (w.alloc (.cells fz 41))):=⟨Q3 (Below.refl _ _) _⟩
 have HF1:=Q0 (h.bel HB1.o)
 have HL0:=Q0 hl
 have HL1:=Q0 (hl.bel HB1.o)
 have HLB:=Q0 hlb
 have HFR:=Q0 h.fresh
 have HBN:=Q0 hbn
 have HCK:=Q0 hck
 have HZ1:=Q0 (heap_alloc_new w (.cells fz 41))
 obtain⟨w1,hw1⟩:∃w1,w.alloc (.cells fz 41)=w1:=⟨_,rfl⟩
 rw[hw1]at HB1 HF1 HL1 HZ1
 obtain⟨b5,hb5⟩:∃b,w.heap.size=b:=⟨_,rfl⟩
 have H5:Sc (w.heap.size<=b5):=⟨by omega⟩
 rw[hb5]at HZ1 HFR
 have hlen':L.length<=1000000:=by omega
 have h1':bs<=1000000:=by omega
 have lz0:=Q6 HZ1.o
 have lf0:=HF1.o.lt
 have f0:=HF1.o.cells
 have HLOW:Sc (∀X,Below w1.heap.size w1 X->Below B w X):=⟨fun X hX=>(HB1.o.mono hBw).trans (hX.mono (Nat.le_trans hBw HB1.o.size))⟩
 clear h hl hlb hbn hck hBw
 go_enter Tryz.func39,Tryz.ntmps39
 go_wp2_with fail
 clear hw1 hb5
 refine(E3 w1 lb row L bs Xe HL1.o hlen' h0 h1').mono ?_
 rintro e w2 ⟨rfl,hb⟩
 have HB2:Sc (Below w1.heap.size w1 (w2.alloc (.cells (Qe ((Qx L bs Xe).getD Z9)) 49))):=⟨Q3 hb _⟩
 have HZ2:=Q0 (up HB2.o HZ1.o)
 have HX2:=Q0 (heap_alloc_new w2 (.cells (Qe ((Qx L bs Xe).getD Z9)) 49))
 have H6:Sc (w1.heap.size<=w2.heap.size):=⟨hb.size⟩
 clear hb
 by_cases hgo:∃r,Qx L bs Xe=some r/\r.kind=7
 case neg=>
  have HE:Sc (Zc L bs pages Xe=(some Xe,An.zero false)):=⟨by
   cases hrec:Qx L bs Xe with
   |none=>exact Q7p HBN.o HCK.o hrec
   |some r=>exact X1b HBN.o HCK.o hrec (fun h7=>hgo ⟨r,hrec,h7⟩)⟩
  obtain⟨x,hx⟩:∃x,(Qx L bs Xe).getD Z9=x:=⟨_,rfl⟩
  obtain⟨q,hq⟩:∃q,(Qx L bs Xe).isSome=q:=⟨_,rfl⟩
  have hnk:q=false\/(x.kind==7)=false:=by
   cases hrec:Qx L bs Xe with
   |none=>exact .inl (by rw[<-hq,hrec];rfl)
   |some r=>exact .inr (Ql (fun h7=>hgo ⟨r,hrec,by rw[<-h7,<-hx,hrec];rfl⟩))
  rw[hx]at HB2 HZ2 HX2 ⊢
  rw[hq]
  have hz0:x.kind=x.kind:=rfl
  clear hgo hx hq f0
  obtain⟨c0,c1,c2,c3,c4,c5,c6,c7,c8,c9⟩:=Qb HX2.o
  have lc:=Q6 HX2.o
  have HN:Sc (q=true->(x.kind==7)=false):=⟨fun h=>hnk.elim (fun h'=>by rw[h']at h;cases h) id⟩
  clear hnk hz0
  cases q
  case false=>
   go_wp2_with fail
   refine(Ja _ 108 Xe (by omega)).mono ?_
   rintro e w3 ⟨rfl,hb3⟩
   have HB3:=Q0 (Q5 HB2.o hb3)
   have hz:=up HB3.o HZ1.o
   obtain⟨q0,q1,q2,y0,y1,y2,lz⟩:=Q7 hz
   clear hz hb3 c0 c1 c2 c3 c4 c5 c6 c7 c8 c9
   go_wp2
   refine bodyPost_ret (v:=.tuple #[.int .i64 0,Oc 108 Xe]) (by simp[results,Tryz.results39,go_sem,q0,q1,q2]) rfl ⟨.inl ⟨Xe,rfl,HE.o⟩,?_⟩
   exact Ox (HLOW.o _ HB3.o) (Nat.le_trans HBW.o H5.o)
  case true=>
   have e7:=HN.o rfl
   go_wp2_with fail
   refine(Ja _ 108 Xe (by omega)).mono ?_
   rintro e w3 ⟨rfl,hb3⟩
   have HB3:=Q0 (Q5 HB2.o hb3)
   have hz:=up HB3.o HZ1.o
   obtain⟨q0,q1,q2,y0,y1,y2,lz⟩:=Q7 hz
   clear hz hb3 c0 c1 c2 c3 c4 c5 c6 c7 c8 c9
   go_wp2
   refine bodyPost_ret (v:=.tuple #[.int .i64 0,Oc 108 Xe]) (by simp[results,Tryz.results39,go_sem,q0,q1,q2]) rfl ⟨.inl ⟨Xe,rfl,HE.o⟩,?_⟩
   exact Ox (HLOW.o _ HB3.o) (Nat.le_trans HBW.o H5.o)
 obtain⟨r,hrec,h7⟩:=hgo
 have e7:(r.kind==7)=true:=by simp[h7]
 have n7:(r.kind !=7)=false:=by simp[h7]
 obtain⟨j,hj,hjl,_⟩:=Q5b hrec
 have HA:Sc (Zc L bs pages Xe=Y7 (bs+L.length) (Xz bs (bs+1+((j+1:Nat):Int)) (L.drop (j+1)) (An.zero true))):=⟨X7h HBN.o HCK.o hrec h7 hj⟩
 have hwk:IntKind.i64.wrap (Xe+1)=bs+1+((j+1:Nat):Int):=by rw[IntWalk.i64_in _ ⟨by omega,by omega⟩];omega
 rw[hrec]at HB2 HZ2 HX2 ⊢
 simp only[Option.getD_some,Option.isSome_some]at HB2 HZ2 HX2 ⊢
 obtain⟨c0,c1,c2,c3,c4,c5,c6,c7,c8,c9⟩:=Qb HX2.o
 have lc:=Q6 HX2.o
 have HF2:=Q0 (HF1.o.bel HB2.o)
 have HT2:Sc (Two B (w2.alloc (.cells (Qe r) 49)) fb b5 w2.heap.size none none r):=⟨⟨HZ2.o,HX2.o,⟨HFR.o.1,by simp,by simp⟩,⟨by have:=H6.o;omega,by simp,by simp⟩,by have:=H6.o;omega,⟨Nat.le_trans HBW.o H5.o,Nat.le_trans HBW.o (Nat.le_trans HB1.o.size H6.o)⟩⟩⟩
 have HBX:=Q0 (HLOW.o _ HB2.o)
 clear hrec h7 hj HB2 HZ2 HX2 f0 lz0 lf0
 go_wp2_with fail
 obtain⟨b6,hb6⟩:∃b,w2.heap.size=b:=⟨_,rfl⟩
 rw[hb6]at HT2 ⊢
 clear c0 c1 c2 c3 c4 c5 c6 c7 c8 c9 lc e7 n7 hwk hb6
 go_loopg [4,7,8] (L.length+1) (fun kx s4 s7 s8 wr=>∃(i:Nat) (s:An) (rt rd:Option Nat) (x:Q9) (q:Bool),s4=.int .i64 0/\s7=.bool q/\s8=.int .i64 (bs+1+i)/\i<=L.length/\L.length+1 - i<=kx/\s.t.length<=i/\s.d.length<=i/\s.ins=true/\Sc (Seen s)/\Sc (Z2 B wr fb lb rt rd s)/\Sc (Two B wr fb b5 b6 rt rd x)/\Sc (Below B w wr)/\Sc (Zc L bs pages Xe=Y7 (bs+L.length) (Xz bs (bs+1+i) (L.drop i) s)))
 case atStart=>exact⟨j+1,An.zero true,none,none,r,true,rfl,rfl,rfl,by omega,by omega,Nat.zero_le _,Nat.zero_le _,rfl,⟨Q8l true⟩,HF2,HT2,HBX,HA⟩
 case round=>
  obtain⟨i,s,rt,rd,x,q,rfl,rfl,rfl,hi,hkx,hst,hsd,hins,HSN,HF,HT,HB,HAI⟩:=hrel
  have HINS:=Q0 hins
  have HLR:=Q0 (HL0.o.low HB.o HLB.o.1 HLB.o.2)
  have f0:=HF.o.cells
  have lf:=HF.o.lt
  have hw1:IntKind.i64.wrap (bs+1+i+1)=bs+1+(i:Int)+1:=IntWalk.i64_in _ ⟨by omega,by omega⟩
  obtain⟨y,hy⟩:∃y,(Qx L bs (bs+1+i)).getD Z9=y:=⟨_,rfl⟩
  obtain⟨z,hz⟩:∃z,(Qx L bs (bs+1+i)).isSome=z:=⟨_,rfl⟩
  have HYZ:=Q0 (And.intro hy hz)
  clear hins hy hz
  go_upto_region 6 with fail
  go_cut [7] from 32 to 40 (fun s7 wx=>s7=.bool z/\Sc (wx.heap[b6]? =some (.cells (Qe y) 49 (0,0)))/\Sc (Kp (fun q=>q=b6) wr wx))
  case first=>
   go_wp2_with fail
   refine(E3 _ lb row L bs (bs+1+i) HLR.o hlen' h0 h1').mono ?_
   rw[HYZ.o.1,HYZ.o.2]
   rintro e w3 ⟨rfl,hb⟩
   have hz6:=up hb HT.o.rcd
   have HZ6:=Q0 hz6
   have HKB:=Q0 hb
   obtain⟨c0,c1,c2,c3,c4,c5,c6,c7,c8,c9⟩:=Qb hz6
   have g0:=Q2 hz6 0
   have g1:=Q2 hz6 1
   have g2:=Q2 hz6 2
   have g3:=Q2 hz6 3
   have g4:=Q2 hz6 4
   have g5:=Q2 hz6 5
   have g6:=Q2 hz6 6
   have g7:=Q2 hz6 7
   have g8:=Q2 hz6 8
   have g9:=Q2 hz6 9
   have l6:=Q6 hz6
   clear hb hz6 f0 lf
   go_wp2_with fail
   go_meet
   case rel=>exact⟨rfl,⟨Y3i HZ6.o⟩,⟨(Kp.Qi HKB.o _).trans Y2k (fun _ h=> .inl h)⟩⟩
  case rest=>
   obtain⟨rfl,HX,HK⟩:=hcut
   have HF3:=Q0 (HF.o.kp HK.o (fun h=>HT.o.n6.1 h.symm) (fun q hq h=>HT.o.n6.2.1 (by rw[hq,h])) (fun q hq h=>HT.o.n6.2.2 (by rw[hq,h])))
   have HT3:=Q0 (HT.o.X3r HK.o HX.o)
   have HB3:Sc (Below B w wc):=⟨HB.o.trans (HK.o.below (Nat.le_trans HBW.o HB.o.size) (fun q hq=>by rw[hq];exact HT.o.low.2))⟩
   have HQ:Sc (Below wc.heap.size wc wc):=⟨Below.refl _ _⟩
   obtain⟨c0,c1,c2,c3,c4,c5,c6,c7,c8,c9⟩:=Qb HX.o
   have l6:=Q6 HX.o
   have f1:=HF3.o.cells
   have lf1:=HF3.o.lt
   clear f0 lf HLR
   by_cases hlt:i<L.length
   case neg=>
    have hin:i=L.length:=by omega
    have hrn:Qx L bs (bs+1+(i:Int))=none:=by rw[hin];exact Y0a
    obtain rfl:Z9=y:=by rw[<-HYZ.o.1,hrn];rfl
    obtain rfl:false=z:=by rw[<-HYZ.o.2,hrn];rfl
    have HE:Sc (Zc L bs pages Xe=(some (bs+1+(i:Int)),An.zero false)):=⟨by rw[HAI.o,hin,Q5h,Q7s HINS.o,show bs+(L.length:Int)+1=bs+1+(L.length:Int) from by omega]⟩
    have HT4:=HT3
    have HB4:=HB3
    clear hin hrn
    go_wp2_with fail
    refine(Ja _ 108 (bs+1+i) (by omega)).mono ?_
    rintro e w5 ⟨rfl,hb5⟩
    have HB5:Sc (Below B w w5):=⟨by first|exact HB4.o.trans (hb5.mono (Nat.le_trans HBW.o HB4.o.size))|exact(HB4.o.trans ((X0 (Below.refl _ _) _).trans hb5|>.mono (Nat.le_trans HBW.o HB4.o.size)))⟩
    obtain⟨q0,q1,q2,y0,y1,y2,lz⟩:=Q7 (up hb5 HT4.o.flt)
    clear hb5
    go_wp2
    refine bodyPost_ret (v:=.tuple #[.int .i64 0,Oc 108 (bs+1+i)]) (by simp[results,Tryz.results39,go_sem,q0,q1,q2]) rfl ⟨.inl ⟨_,rfl,HE.o⟩,Ox HB5.o HT4.o.low.1⟩
   obtain⟨r,hr⟩:∃r,L[i]? =some r:=⟨_,List.getElem?_eq_getElem hlt⟩
   have hra:Qx L bs (bs+1+(i:Int))=some r:=by rw[Gr rfl hlt,hr]
   obtain rfl:r=y:=by rw[<-HYZ.o.1,hra];rfl
   obtain rfl:true=z:=by rw[<-HYZ.o.2,hra];rfl
   have HRI:=Q0 hr
   have HSO:=Q0 (Y3k bs (bs+1+i) r HINS.o)
   have HNX:∀s',J2 bs (bs+1+i) r s=(true,s')->Sc (Zc L bs pages Xe=Y7 (bs+L.length) (Xz bs (bs+1+(i:Int)+1) (L.drop (i+1)) s')):=fun s' h=>⟨by rw[HAI.o,Q1k HRI.o (by rw[HSO.o,h]),HSO.o,h]⟩
   have HST:∀s',J2 bs (bs+1+i) r s=(false,s')->Sc (Zc L bs pages Xe=(some (bs+1+(i:Int)),An.zero false)):=fun s' h=>⟨by rw[HAI.o];exact C5 (Q1m HRI.o (by rw[HSO.o,h]))⟩
   have HNX:=Q0 HNX
   have HST:=Q0 HST
   clear hr hra
   by_cases h8:r.kind=8
   ·have e8:(r.kind==8)=true:=by simp[h8]
    have HSC:=Q0 (Y0i (bs:=bs) (lsn:=bs+1+i) (s:=s) h8)
    have CA:∀X,Below wc.heap.size wc X->Calls Tryz.prog 79 #[.pointer (some ⟨fb,1,none⟩),.agg #[.int .i64 r.txn,.int .i64 r.key,.int .i64 r.prev,.int .i64 r.next]] X fun e w2=>e=.returned (.tuple #[])/\Y0 B fb lb rt rd {s with t:=Qt s.t (r.txn,r.key,r.prev,r.next),m:=max s.m r.txn} wc w2:=fun X hX=>(X2w X (r.txn,r.key,r.prev,r.next) (HF3.o.bel hX) (by omega)).mono fun e w' ⟨he,hl⟩=>⟨he,hl.from_ hX⟩
    obtain⟨p1,d1⟩:∃p1,decide (r.prev<bs+1+(i:Int))=p1:=⟨_,rfl⟩
    obtain⟨p2,d2⟩:∃p2,decide (r.next<bs+1+(i:Int))=p2:=⟨_,rfl⟩
    rw[d1,d2]at HSC
    obtain⟨g,hg⟩:∃g,(p1&&p2)=g:=⟨_,rfl⟩
    rw[hg]at HSC
    have HGG:=Q0 hg
    clear h8 hg
    obtain⟨wa,rfl⟩:∃wa:World,wa=wc:=⟨_,rfl⟩
    go_upto_region 11 with fail
    go_cut [9] from 46 to 58 (fun s9 wx=>s9=.bool g/\wa=wx)
    case first=>
     cases p1<;>cases p2
     all_goals
      go_wp2_with fail
      go_meet
      case rel=>exact⟨by rw[<-HGG.o];rfl,rfl⟩
    case rest=>
     obtain⟨rfl,rfl⟩:=hcut
     clear d1 d2
     go_wp2_with fail
     go_region_law (first|(go_simp;go_at_call 79;refine(CA _ (by first|exact HQ.o|exact HQ.o.drew|exact X0 HQ.o _|exact(X0 HQ.o _).drew)).mono ?_;rintro e w4 ⟨rfl,hl⟩;have HLF:=Q0 hl;clear hl))
     all_goals
      have HB4:Sc (Below B w w4):=⟨HB3.o.trans (HLF.o.below HF3.o)⟩
      obtain⟨rt4,rd4,hf4,ht4⟩:=HT3.o.left HLF.o
      have HF4:=Q0 hf4
      have HT4:=Q0 ht4
      clear CA hf4 ht4 HLF c0 c1 c2 c3 c4 c5 c6 c7 c8 c9 l6 f1 lf1
      cases g
      ·have HE:=HST.o _ HSC.o
       go_wp2_with fail
       refine(Ja _ 108 (bs+1+i) (by omega)).mono ?_
       rintro e w5 ⟨rfl,hb5⟩
       have HB5:Sc (Below B w w5):=⟨by first|exact HB4.o.trans (hb5.mono (Nat.le_trans HBW.o HB4.o.size))|exact(HB4.o.trans ((X0 (Below.refl _ _) _).trans hb5|>.mono (Nat.le_trans HBW.o HB4.o.size)))⟩
       obtain⟨q0,q1,q2,y0,y1,y2,lz⟩:=Q7 (up hb5 HT4.o.flt)
       clear hb5
       go_wp2
       refine bodyPost_ret (v:=.tuple #[.int .i64 0,Oc 108 (bs+1+i)]) (by simp[results,Tryz.results39,go_sem,q0,q1,q2]) rfl ⟨.inl ⟨_,rfl,HE.o⟩,Ox HB5.o HT4.o.low.1⟩
      ·have HA4:=HNX.o _ HSC.o
       have hln:=G0 s.t (r.txn,r.key,r.prev,r.next)
       have hse:Seen _:=E5 HSN.o (r.txn,r.key,r.prev,r.next) s.d
       have HSE:=Q0 hse
       have hl1:(Qt s.t (r.txn,r.key,r.prev,r.next)).length<=i+1:=by omega
       clear hse hln
       go_wp2
       go_roundg (L.length+1 - (i+1))
       case measure=>omega
       case rel=>exact⟨i+1,{s with t:=Qt s.t (r.txn,r.key,r.prev,r.next),m:=max s.m r.txn},rt4,rd4,r,true,rfl,rfl,by rw[show bs+1+((i+1:Nat):Int)=bs+1+(i:Int)+1 from by omega],by omega,Nat.le_refl _,hl1,Nat.le_succ_of_le hsd,HINS.o,⟨HSE.o⟩,HF4,HT4,HB4,⟨by rw[HA4.o,show bs+1+((i+1:Nat):Int)=bs+1+(i:Int)+1 from by omega]⟩⟩
   have e8:(r.kind==8)=false:=Ql h8
   by_cases h9:r.kind=9
   ·have e9:(r.kind==9)=true:=by simp[h9]
    have HSC:=Q0 (X6l (bs:=bs) (lsn:=bs+1+i) (s:=s) h9)
    have CA:∀X,Below wc.heap.size wc X->Calls Tryz.prog 80 #[.pointer (some ⟨fb,3,none⟩),.int .i64 r.page,.int .i64 r.prev] X fun e w2=>e=.returned (.tuple #[])/\Y0 B fb lb rt rd {s with d:=add s.d (r.page,r.prev)} wc w2:=fun X hX=>(Q5e X r.page r.prev (HF3.o.bel hX) (by omega)).mono fun e w' ⟨he,hl⟩=>⟨he,hl.from_ hX⟩
    have HLR3:=Q0 (HL0.o.low HB3.o HLB.o.1 HLB.o.2)
    obtain⟨⟨dp,A,sz,cp,hv,hcl,hown⟩,hap⟩:=HLR3.o
    obtain⟨k2,k3,k5⟩:=Xy hcl
    have ll:=Q6 hcl
    obtain⟨p1,d1⟩:∃p1,decide (bs<r.prev)=p1:=⟨_,rfl⟩
    obtain⟨p2,d2⟩:∃p2,decide (r.prev<bs+1+(i:Int))=p2:=⟨_,rfl⟩
    rw[d1,d2]at HSC
    clear h8 h9 hv hcl hown hap k2 k5
    cases p1<;>cases p2
    all_goals
     go_wp2_with fail
     go_quiet (fail)
     go_wp2_with fail
     go_region_law (first|(go_simp;go_at_call 80;refine(CA _ (by first|exact HQ.o|exact HQ.o.drew|exact X0 HQ.o _|exact(X0 HQ.o _).drew)).mono ?_;rintro e w4 ⟨rfl,hl⟩;have HLF:=Q0 hl;clear hl))
    all_goals
     have HB4:Sc (Below B w w4):=⟨HB3.o.trans (HLF.o.below HF3.o)⟩
     obtain⟨rt4,rd4,hf4,ht4⟩:=HT3.o.left HLF.o
     have HF4:=Q0 hf4
     have HT4:=Q0 ht4
     clear CA hf4 ht4 HLF c0 c1 c2 c3 c4 c5 c6 c7 c8 c9 l6 f1 lf1 k3 ll
    all_goals first
     |(have HE:=HST.o _ HSC.o
       go_wp2_with fail
       refine(Ja _ 108 (bs+1+i) (by omega)).mono ?_
       rintro e w5 ⟨rfl,hb5⟩
       have HB5:Sc (Below B w w5):=⟨by first|exact HB4.o.trans (hb5.mono (Nat.le_trans HBW.o HB4.o.size))|exact(HB4.o.trans ((X0 (Below.refl _ _) _).trans hb5|>.mono (Nat.le_trans HBW.o HB4.o.size)))⟩
       obtain⟨q0,q1,q2,y0,y1,y2,lz⟩:=Q7 (up hb5 HT4.o.flt)
       clear hb5
       go_wp2
       refine bodyPost_ret (v:=.tuple #[.int .i64 0,Oc 108 (bs+1+i)]) (by simp[results,Tryz.results39,go_sem,q0,q1,q2]) rfl ⟨.inl ⟨_,rfl,HE.o⟩,Ox HB5.o HT4.o.low.1⟩)
     |(have HA4:=HNX.o _ HSC.o
       have hln:=C0 s.d (r.page,r.prev)
       have hl1:(add s.d (r.page,r.prev)).length<=i+1:=by omega
       clear hln
       go_wp2
       go_roundg (L.length+1 - (i+1))
       case measure=>omega
       case rel=>exact⟨i+1,{s with d:=add s.d (r.page,r.prev)},rt4,rd4,r,true,rfl,rfl,by rw[show bs+1+((i+1:Nat):Int)=bs+1+(i:Int)+1 from by omega],by omega,Nat.le_refl _,Nat.le_succ_of_le hst,hl1,HINS.o,⟨HSN.o⟩,HF4,HT4,HB4,⟨by rw[HA4.o,show bs+1+((i+1:Nat):Int)=bs+1+(i:Int)+1 from by omega]⟩⟩)
   have e9:(r.kind==9)=false:=Ql h9
   by_cases h10:r.kind=10
   ·have e10:(r.kind==10)=true:=by simp[h10]
    have HSC:=Q0 (Y0h (bs:=bs) (lsn:=bs+1+i) (s:=s) h10)
    have CA:∀X,Below wc.heap.size wc X->Calls Tryz.prog 81 #[.pointer (some ⟨fb,1,none⟩),.int .i64 r.next] X fun e w2=>e=.returned (.tuple #[])/\Y0 B fb lb rt rd {s with m:=max s.m r.next} wc w2:=fun X hX=>(Y2x X r.next (HF3.o.bel hX)).mono fun e w' ⟨he,hl⟩=>⟨he,hl.from_ hX⟩
    clear h8 h9 h10
    go_wp2_with fail
    go_region_law (first|(go_simp;go_at_call 81;refine(CA _ (by first|exact HQ.o|exact HQ.o.drew|exact X0 HQ.o _|exact(X0 HQ.o _).drew)).mono ?_;rintro e w4 ⟨rfl,hl⟩;have HLF:=Q0 hl;clear hl))
    all_goals
     have HB4:Sc (Below B w w4):=⟨HB3.o.trans (HLF.o.below HF3.o)⟩
     obtain⟨rt4,rd4,hf4,ht4⟩:=HT3.o.left HLF.o
     have HF4:=Q0 hf4
     have HT4:=Q0 ht4
     have HA4:=HNX.o _ HSC.o
     clear CA hf4 ht4 HLF c0 c1 c2 c3 c4 c5 c6 c7 c8 c9 l6 f1 lf1
     go_wp2_with fail
     refine(Vc _).mono ?_
     rintro e w5 ⟨rfl,hb5⟩
     have HB5:Sc (Below B w w5):=⟨HB4.o.trans (hb5.mono (Nat.le_trans HBW.o HB4.o.size))⟩
     have HF5:=Q0 (HF4.o.bel hb5)
     have HT5:=Q0 (HT4.o.bel hb5)
     obtain⟨q0,q1,q2,y0,y1,y2,lz⟩:=Q7 HT5.o.flt
     clear hb5
     go_wp2
     refine bodyPost_ret (v:=.tuple #[.int .i64 (bs+1+i),X5 0]) (by simp[results,Tryz.results39,go_sem,q0,q1,q2]) rfl ⟨.inr ⟨i,rt4,rd4,{s with m:=max s.m r.next,ins:=false},rfl,hlt,hst,hsd,rfl,fun x hx=> ?_,?_,?_⟩,Ox HB5.o HT5.o.low.1⟩
     ·show x.1<=max s.m r.next
      have:=HSN.o x hx;omega
     ·have hk:Kp (fun q=>q=b5) w5 (((w5.setCell ⟨b5,0,none⟩ (.int .i64 0)).setCell ⟨b5,1,none⟩ (.bool false)).setCell ⟨b5,2,none⟩ (.int .i64 0)):=Jr
      obtain⟨a1,a2,a3,a4,a5,a6,a7,a8,a9⟩:=HF5.o.kp hk (fun h=>HT5.o.n5.1 h.symm) (fun q hq h=>HT5.o.n5.2.1 (by rw[hq,h])) (fun q hq h=>HT5.o.n5.2.2 (by rw[hq,h]))
      exact⟨a1,a2,a3,a4,a5,a6,a7,a8,a9⟩
     ·rw[HA4.o,show bs+1+((i+1:Nat):Int)=bs+1+(i:Int)+1 from by omega]
   have e10:(r.kind==10)=false:=Ql h10
   have HE:=HST.o _ (Y3j (bs:=bs) (lsn:=bs+1+i) (s:=s) ⟨h8,h9,h10⟩)
   have HT4:=HT3
   have HB4:=HB3
   clear h8 h9 h10
   go_wp2_with fail
   refine(Ja _ 108 (bs+1+i) (by omega)).mono ?_
   rintro e w5 ⟨rfl,hb5⟩
   have HB5:Sc (Below B w w5):=⟨by first|exact HB4.o.trans (hb5.mono (Nat.le_trans HBW.o HB4.o.size))|exact(HB4.o.trans ((X0 (Below.refl _ _) _).trans hb5|>.mono (Nat.le_trans HBW.o HB4.o.size)))⟩
   obtain⟨q0,q1,q2,y0,y1,y2,lz⟩:=Q7 (up hb5 HT4.o.flt)
   clear hb5
   go_wp2
   refine bodyPost_ret (v:=.tuple #[.int .i64 0,Oc 108 (bs+1+i)]) (by simp[results,Tryz.results39,go_sem,q0,q1,q2]) rfl ⟨.inl ⟨_,rfl,HE.o⟩,Ox HB5.o HT4.o.low.1⟩
end Go.Proofs.YtoapihepdallbaaGreatDoor
