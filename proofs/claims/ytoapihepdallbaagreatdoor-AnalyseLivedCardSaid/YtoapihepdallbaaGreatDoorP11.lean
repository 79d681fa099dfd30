import Derived.Test.YtoapihepdallbaaGreatDoorP09
namespace Go.Proofs.YtoapihepdallbaaGreatDoor
open Go.RowKit
section
set_option maxHeartbeats 4000000
set_option maxRecDepth 4000
def Vf:Array Value:=(List.replicate 256 (Value.int .u8 0)).toArray
def Q9g(g:Nat):List Value:=[.slice (some ⟨g,0,none⟩) 256 256,.slice none 0 0]
theorem Y8c:Kind Q9g 2:=⟨fun _=>rfl,fun _ u hu=>by simp[Q9g]at hu;rcases hu with rfl|rfl<;>rfl,by omega⟩
def Dn(g:Nat):List Value:=[.slice (some ⟨g,0,none⟩) 1 1]
theorem Y2j:Kind Dn 1:=⟨fun _=>rfl,fun _ u hu=>by simp[Dn]at hu;rcases hu with rfl;rfl,by omega⟩
theorem Y7z:(Tryz.prog.info? 158).map (fun i=>(i.zero,i.size,i.bytes))=some (some (.agg #[.slice none 0 0,.slice none 0 0]),2,48):=by kernel_rfl
theorem Y6n:(Tryz.prog.info? 156).map (fun i=>(i.zero,i.size,i.bytes))=some (some (.slice none 0 0),1,24):=by kernel_rfl
def Q7m{α:Type}(enc:α->List Value)(sz:Nat)(te td:TypeId)(x y:Value)(B:Nat)(w:World)(b k:Nat):Prop:=
 ∃(A:Option Addr) (c:Nat) (l:List α),w.heap[b]? =some (.cells #[.slice A k c,x,y] td (0,0))/\(Value.slice A k c).ownBlock≠some b/\(∀q,(Value.slice A k c).ownBlock=some q->B<=q)/\Own enc sz te 0 w (.slice A k c) l/\l.length=k
theorem Q7m.app{α:Type}{enc:α->List Value}{sz:Nat}{te td:TypeId}{x y:Value}{B b k g cap c:Nat}{A:Option Addr}{wr W w2:World}{l:List α}{z:α}
  (h1:wr.heap[b]? =some (.cells #[.slice A k c,x,y] td (0,0))) (h2:(Value.slice A k c).ownBlock≠some b) (h3:∀q,(Value.slice A k c).ownBlock=some q->B<=q) (hbB:B<=b) (hlen:l.length=k) (hB:B<=wr.heap.size)
  (hb:Below wr.heap.size wr W) (hown:w2.ownsRow 0 te sz (.slice (some ⟨g,0,none⟩) (k+1) cap) (k+1) (flat enc l++enc z)) (hg:W.grownBy w2 (Value.slice A k c).ownBlock) (hat:(Value.slice A k c).ownBlock=some g\/W.heap.size<=g):
  w2.heap[b]? =some (.cells #[.slice A k c,x,y] td (0,0))/\Q7m enc sz te td x y B (w2.setCell ⟨b,0,none⟩ (.slice (some ⟨g,0,none⟩) (k+1) cap)) b (k+1)/\Below B wr (w2.setCell ⟨b,0,none⟩ (.slice (some ⟨g,0,none⟩) (k+1) cap)):=by
 have hW:=up hb h1
 have hc2:w2.heap[b]? =some (.cells #[.slice A k c,x,y] td (0,0)):=(hg.block b (Q6 hW) (fun he=>h2 he.symm)).trans hW
 have hne:g≠b:=by
  rcases hat with h|h
  ·intro he;subst he;exact h2 h
  ·have:=Q6 hW;omega
 have hgB:B<=g:=by
  rcases hat with h|h
  ·exact h3 g h
  ·have:=hb.size;omega
 have ho:Own enc sz te 0 w2 (.slice (some ⟨g,0,none⟩) (k+1) cap) (l++[z]):=Own.Qv hown (by simp[hlen]) (by rw[Qc,Qm])
 refine⟨hc2,⟨some ⟨g,0,none⟩,cap,l++[z],?_,fun he=>hne (by injection he),fun q hq=>by injection hq with hq;rw[<-hq];exact hgB,ho.kp (Kp.setCell w2 _ _) (fun q hq he=> ?_),by simp[hlen]⟩,?_⟩
 ·rw[Qn hc2 0 _];rfl
 ·injection hq with hq;exact hne (hq.trans he)
 ·refine((((Kp.Qi hb (fun q=>q=b\/some q=(Value.slice A k c).ownBlock)).trans (Kp.Zl hg) (fun q hq=> .inl (.inr hq)))).trans (Kp.setCell w2 ⟨b,0,none⟩ _) (fun q hq=> .inl (.inl hq))).below hB (fun q hq=> ?_)
  rcases hq with hq|hq
  ·rw[hq];exact hbB
  ·exact h3 q hq.symm
theorem Y5l(w:World):((w.alloc (.cells Vf 5)).alloc (.cells (Q9g w.heap.size).toArray 158)).heap[w.heap.size+1]? =some (.cells (Q9g w.heap.size).toArray 158 (0,0)):=by
 have:=heap_alloc_new (w.alloc (.cells Vf 5)) (.cells (Q9g w.heap.size).toArray 158)
 have h:(w.alloc (.cells Vf 5)).heap.size=w.heap.size+1:=by simp
 rwa [h]at this
theorem Od{w:World}{b:Nat}{t:TypeId}{v x y:Value}(h:w.heap[b]? =some (.cells #[v,x,y] t (0,0))):w.cell? ⟨b,0,none⟩=some v:=by simp[World.cell?,h]
theorem X7a(w:World)(dp:Option Addr)(bs:Int):
  Calls Tryz.prog 22 #[.pointer dp,.int .i64 1,.int .i64 29,.int .i64 bs,.int .i64 1] w fun e w'=>e=.returned (.pointer (some ⟨w.heap.size,0,none⟩))/\Vu w' w.heap.size none [] bs/\Below w.heap.size w w':=by
 go_enter Tryz.func22,Tryz.ntmps22
 go_wp2
 go_ret
 exact⟨rfl,⟨⟨dp,none,0,0,rfl,heap_alloc_new w _,Own.nil⟩,by simp⟩,Q3 (Below.refl _ _) _⟩
theorem X1g(w:World):
  Calls Tryz.prog 21 #[.int .i64 30] w fun e w'=>e=.returned (.pointer (some ⟨w.heap.size,0,none⟩))/\Below w.heap.size w w':=by
 obtain⟨i0,hi,hz0,hz1,hz2⟩:=info_parts Y7z
 have hmk:∀W,(Instr.makeSlice 155 (.int .i64 256) (.int .i64 256)).run Tryz.prog W=.ok (.slice (some ⟨W.heap.size,0,none⟩) 256 256) (W.alloc (.cells Vf 5)):=fun _=>by kernel_rfl
 go_enter Tryz.func21,Tryz.ntmps21
 go_wp2_with fail
 go_loopg [9] 30 (fun kx s9 wr=>∃i:Nat,s9=.int .i64 i/\i<=30/\30 - i<=kx/\Sc (Below w.heap.size w wr)/\Sc (Q7m Q9g 2 158 154 (.bool false) (.int .i64 (-1)) w.heap.size wr w.heap.size i))
 case atStart=>exact⟨0,rfl,by omega,by omega,⟨Q3 (Below.refl _ _) _⟩,⟨none,0,[],heap_alloc_new w _,fun h=>by injection h,fun q h=>by injection h,Own.nil,rfl⟩⟩
 case round=>
  obtain⟨i,rfl,hi30,hk,HB,HD⟩:=hrel
  by_cases hlt:i<30
  ·obtain⟨A,c,l,hc,hap,hB,hown,hlen⟩:=HD.o
   have h1:=Od hc
   have z0:=Q2 hc 0
   have lb:=Q6 hc
   have HC:=Q0 hc
   have HO:Sc (Own Q9g 2 158 0 wr (.slice A i c) l/\l.length=i):=⟨hown,hlen⟩
   have HAP:=Q0 (And.intro hap hB)
   have HA2:Sc (i+1<=maxLen):=⟨by unfold maxLen;omega⟩
   have HA3:Sc ((i+1)*48<=140737488355328):=⟨by omega⟩
   have hd:decide ((i:Int)<30)=true:=decide_eq_true (by omega)
   have hiw:IntKind.i64.wrap ((i:Int)+1)=((i+1:Nat):Int):=by rw[IntWalk.i64_in _ ⟨by omega,by omega⟩];omega
   clear hc hap hB hown hlen
   go_upto_region 4 with fail
   go_region_law (first|((refine step_append_lies _ (by rfl) (.tmp 15) (.tmp 18) 152 (by rfl) 0 158 i0 (.agg #[.slice none 0 0,.slice none 0 0]) 2 48 Tryz.underlying152 hi hz0 hz1 hz2 rfl (by decide) _ i (flat Q9g l) (by rfl) (((HO.o.1.alloc _).alloc _).drew.rows HO.o.2) ⟨wr.heap.size+1,0,none⟩ 1 1 (Q9g wr.heap.size) (by rfl) (by rfl) (World.news_of_block (Y5l wr)) (Y8c.one _) Nat.one_pos HA2.o HA3.o (Nat.zero_le _) (wr.heap.size+2) (by simp) ?_);intro ga ca wa g1 g2 g3 g4;obtain⟨hce,hdp,hbe⟩:=Q7m.app (z:=wr.heap.size) HC.o HAP.o.1 HAP.o.2 (Nat.le_refl _) HO.o.2 HB.o.size (Q3 (Q3 (Below.refl wr.heap.size wr) _) _) g1 (Uz g2) (g3.elim .inl (fun h=> .inr (by rw[h];simp)));have y0:=Q2 hce 0;have y1:=Od hce;have lw:=Q6 hce;have HDP:=Q0 hdp;have HBE:=Q0 hbe;clear g1 g2 g3 g4 hce hdp hbe))
   all_goals
    go_wp2
    go_roundg (30 - (i+1))
    case measure=>omega
    case rel=>exact⟨i+1,by rw[show((i+1:Nat):Int)=(i:Int)+1 from by omega],by omega,Nat.le_refl _,⟨HB.o.trans HBE.o⟩,HDP⟩
  ·have hd:decide ((i:Int)<30)=false:=decide_eq_false (by omega)
   go_wp2
   go_ret
   exact⟨rfl,HB.o⟩
end
theorem X7r(w:World):(((w.alloc (.cells Vf 5)).alloc (.cells #[.slice (some ⟨w.heap.size,0,none⟩) 256 256] 155)).alloc (.cells (Dn (w.heap.size+1)).toArray 156)).heap[w.heap.size+2]? =some (.cells (Dn (w.heap.size+1)).toArray 156 (0,0)):=by
 have:=heap_alloc_new ((w.alloc (.cells Vf 5)).alloc (.cells #[.slice (some ⟨w.heap.size,0,none⟩) 256 256] 155)) (.cells (Dn (w.heap.size+1)).toArray 156)
 have h:((w.alloc (.cells Vf 5)).alloc (.cells #[.slice (some ⟨w.heap.size,0,none⟩) 256 256] 155)).heap.size=w.heap.size+2:=by simp
 rwa [h]at this
set_option maxRecDepth 4000 in
set_option maxHeartbeats 4000000 in
theorem X2s(w:World):
  Calls Tryz.prog 24 #[.int .i64 30] w fun e w'=>e=.returned (.pointer (some ⟨w.heap.size,0,none⟩))/\Below w.heap.size w w':=by
 obtain⟨i0,hi,hz0,hz1,hz2⟩:=info_parts Y6n
 have hmk:∀W,(Instr.makeSlice 155 (.int .i64 256) (.int .i64 256)).run Tryz.prog W=.ok (.slice (some ⟨W.heap.size,0,none⟩) 256 256) (W.alloc (.cells Vf 5)):=fun _=>by kernel_rfl
 go_enter Tryz.func24,Tryz.ntmps24
 go_wp2_with fail
 go_loopg [4] 30 (fun kx s4 wr=>∃i:Nat,s4=.int .i64 i/\i<=30/\30 - i<=kx/\Sc (Below w.heap.size w wr)/\Sc (Q7m Dn 1 156 144 (.int .i64 (-1)) (.bool false) w.heap.size wr w.heap.size i))
 case atStart=>exact⟨0,rfl,by omega,by omega,⟨Q3 (Below.refl _ _) _⟩,⟨none,0,[],heap_alloc_new w _,fun h=>by injection h,fun q h=>by injection h,Own.nil,rfl⟩⟩
 case round=>
  obtain⟨i,rfl,hi30,hk,HB,HD⟩:=hrel
  by_cases hlt:i<30
  ·obtain⟨A,c,l,hc,hap,hB,hown,hlen⟩:=HD.o
   have h1:=Od hc
   have z0:=Q2 hc 0
   have lb:=Q6 hc
   have lb1:w.heap.size<wr.heap.size+1:=by omega
   have lb2:w.heap.size<wr.heap.size+1+1:=by omega
   have n0:¬w.heap.size=wr.heap.size:=by omega
   have n1:¬w.heap.size=wr.heap.size+1:=by omega
   have n2:¬w.heap.size=wr.heap.size+1+1:=by omega
   have HC:=Q0 hc
   have HO:Sc (Own Dn 1 156 0 wr (.slice A i c) l/\l.length=i):=⟨hown,hlen⟩
   have HAP:=Q0 (And.intro hap hB)
   have HA2:Sc (i+1<=maxLen):=⟨by unfold maxLen;omega⟩
   have HA3:Sc ((i+1)*24<=140737488355328):=⟨by omega⟩
   have hd:decide ((i:Int)<30)=true:=decide_eq_true (by omega)
   have hiw:IntKind.i64.wrap ((i:Int)+1)=((i+1:Nat):Int):=by rw[IntWalk.i64_in _ ⟨by omega,by omega⟩];omega
   clear hc hap hB hown hlen
   go_upto_region 5 with fail
   go_region_law (first|((refine step_append_lies _ (by rfl) (.tmp 18) (.tmp 21) 142 (by rfl) 0 156 i0 (.slice none 0 0) 1 24 Tryz.underlying142 hi hz0 hz1 hz2 rfl (by decide) _ i (flat Dn l) (by rfl) ((((HO.o.1.alloc _).alloc _).alloc _).drew.rows HO.o.2) ⟨wr.heap.size+2,0,none⟩ 1 1 (Dn (wr.heap.size+1)) (by rfl) (by rfl) (World.news_of_block (X7r wr)) (Y2j.one _) Nat.one_pos HA2.o HA3.o (Nat.zero_le _) (wr.heap.size+3) (by simp) ?_);intro ga ca wa g1 g2 g3 g4;obtain⟨hce,hdp,hbe⟩:=Q7m.app (z:=wr.heap.size+1) HC.o HAP.o.1 HAP.o.2 (Nat.le_refl _) HO.o.2 HB.o.size (Q3 (Q3 (Q3 (Below.refl wr.heap.size wr) _) _) _) g1 (Uz g2) (g3.elim .inl (fun h=> .inr (by rw[h];simp)));have y0:=Q2 hce 0;have y1:=Od hce;have lw:=Q6 hce;have HDP:=Q0 hdp;have HBE:=Q0 hbe;clear g1 g2 g3 g4 hce hdp hbe))
   all_goals
    go_wp2
    go_roundg (30 - (i+1))
    case measure=>omega
    case rel=>exact⟨i+1,by rw[show((i+1:Nat):Int)=(i:Int)+1 from by omega],by omega,Nat.le_refl _,⟨HB.o.trans HBE.o⟩,HDP⟩
  ·have hd:decide ((i:Int)<30)=false:=decide_eq_false (by omega)
   go_wp2
   go_ret
   exact⟨rfl,HB.o⟩
def Y6r(l:List Q9)(w:World)(e:Ending)(w':World):Prop:=
 ∃v',e=.returned v'/\Own Xq 10 49 w.heap.size w' v' l/\Below w.heap.size w w'
set_option maxHeartbeats 1000000 in
theorem Ev(w:World)(base:Nat)(v:Value)(l:List Q9)(hown:Own Xq 10 49 base w v l)(hlen:l.length<=1000000):
  Calls Tryz.prog 14 #[v] w (Y6r l w):=by
 obtain⟨i0,hi,hz0,hz1,hz2⟩:=info_parts Ep
 obtain⟨A,cap,rfl,hnc,hcm⟩:=hown.slice
 obtain⟨n,hn⟩:∃n,l.length=n:=⟨_,rfl⟩
 rw[hn]at hown hlen hnc ⊢
 have HN:=Q0 hn
 have HO:=Q0 hown
 clear hown hn
 go_enter Tryz.func14,Tryz.ntmps14
 go_wp2_with (at_make;refine wpList_make_own _ rfl _ _ 24 rfl w.heap.size 49 i0 (.agg #[.int .i64 0,.int .i64 0,.int .i64 0,.int .i64 0,.int .i64 0,.int .i64 0,.bool false,.bool false,.int .i64 0,.int .i64 0]) 10 Tryz.underlying24 hi hz0 hz1 .i64 .i64 _ n rfl rfl rfl ?b1 ?b2 (Nat.le_refl _) ?_)
 case b1=>rw[hz2];omega
 case b2=>unfold maxLen;omega
 intro w1 hown1 hg1
 have HO1:Sc (Own Xq 10 49 w.heap.size w1 (.slice (some ⟨w.heap.size,0,none⟩) 0 n) ([]:List Q9)):=⟨hown1⟩
 have HB1:Sc (Below w.heap.size w w1):=⟨Gq hg1⟩
 clear hown1 hg1
 go_wp2
 go_loopg [3,4] n (fun kx s3 s4 wr=>∃i:Nat,s4=.int .i64 i/\i<=n/\n - i<=kx/\Sc (Below w.heap.size w wr)/\Sc (Own Xq 10 49 w.heap.size wr s3 (l.take i)))
 case atStart=>exact⟨0,rfl,by omega,by omega,HB1,⟨by rw[List.take_zero];exact HO1.o⟩⟩
 case round=>
  obtain⟨i,rfl,hin,hg,HB,HR⟩:=hrel
  by_cases hlt:i<n
  ·obtain⟨x,hx⟩:∃x,l[i]? =some x:=⟨_,List.getElem?_eq_getElem (by rw[HN.o];exact hlt)⟩
   obtain⟨g,c2,he,_,_,_,_⟩:=HO.o.form (by rw[HN.o];omega)
   injection he with hA hn2 hC
   subst hA
   have HO2:=HO.o.below HB.o
   obtain⟨c0,c1,c2,c3,c4,c5,c6,c7,c8,c9⟩:=HO2.Qe hx
   have hnext:l.take (i+1)=l.take i++[x]:=by rw[List.take_add_one,hx];rfl
   have HX:=Q0 hnext
   have HT:Sc ((l.take i).length=i):=⟨by rw[List.length_take,HN.o];omega⟩
   have hil:(i:Int)<n:=by omega
   clear hx HO2 hnext hn2 hC
   go_wp2_with (at_builtin;go_loud (refine wpList_append_own_at _ rfl (.tmp 14) (.tmp 19) 24 rfl w.heap.size 49 i0 (.agg #[.int .i64 0,.int .i64 0,.int .i64 0,.int .i64 0,.int .i64 0,.int .i64 0,.bool false,.bool false,.int .i64 0,.int .i64 0]) 10 72 Tryz.underlying24 hi hz0 hz1 hz2 rfl (by decide) _ (l.take i).length (flat Xq (l.take i)) rfl (HR.o.alloc _) _ 1 1 (Xq x) rfl rfl ?c1 ?c2 ?c3 ?c4 ?c5 ?_))
   case c1=>exact World.news_of_block (heap_alloc_new _ _)
   case c2=>exact Z4.one x
   case c3=>rw[HT.o];unfold maxLen;omega
   case c4=>rw[HT.o];omega
   case c5=>have:=HB.o.size;simp;omega
   intro v1 w2 h1 h2 h3 h4
   have H1:Sc (Own Xq 10 49 w.heap.size w2 v1 (l.take (i+1))):=⟨by
    rw[HX.o]
    unfold Own
    rw[Qc,Qm,List.length_append,List.length_take]
    exact h1⟩
   have H2:Sc (Below w.heap.size w w2):=⟨(HB.o.alloc HB.o.size _).grown h2 (by have:=HB.o.size;simp;omega) (fun k hk=>(HR.o.lt k hk).1)⟩
   clear h1 h2 h3 h4 HR HB c0 c1 c2 c3 c4 c5 c6 c7 c8 c9
   go_wp2
   go_roundg (n - (i+1))
   case measure=>omega
   case rel=>exact⟨i+1,by go_num,by omega,Nat.le_refl _,H2,H1⟩
  ·obtain rfl:i=n:=by omega
   have HE:Sc (l.take i=l):=⟨by rw[<-HN.o,List.take_length]⟩
   go_wp2
   go_ret
   exact⟨_,rfl,by have:=HR.o;rwa [HE.o]at this,HB.o⟩
end Go.Proofs.YtoapihepdallbaaGreatDoor
