import Derived.Test.YtoapihepdallbaaGreatDoorP20
namespace Go.Proofs.YtoapihepdallbaaGreatDoor
open Go.RowKit
section
set_option maxHeartbeats 2000000
set_option maxRecDepth 4000
theorem Q4m:(Tryz.prog.info? 188).map (fun i=>(i.zero,i.size,i.bytes))=some (some (.agg #[.int .i64 0,.int .i64 0]),2,16):=by kernel_rfl
def Ul(x:Int×Int×Int):List Value:=[.int .i64 x.1,.int .i64 x.2.1,.int .i64 x.2.2]
theorem Q8e:Kind Ul 3:=⟨fun _=>rfl,fun _ u hu=>by simp[Ul]at hu;rcases hu with rfl|rfl|rfl<;>rfl,by omega⟩
theorem X1y:(Tryz.prog.info? 245).map (fun i=>(i.zero,i.size,i.bytes))=some (some (.agg #[.int .i64 0,.int .i64 0,.int .i64 0]),3,24):=by kernel_rfl
theorem Own.Q9a{w:World}{e:TypeId}{base g n cap:Nat}{l:List (Int×Int×Int)}(h:Own Ul 3 e base w (.slice (some ⟨g,0,none⟩) n cap) l){k:Nat}{x:Int×Int×Int}(hx:l[k]? =some x):
  w.cell? ⟨g,k*3,none⟩=some (.int .i64 x.1)/\w.cell? ⟨g,k*3+1,none⟩=some (.int .i64 x.2.1)/\w.cell? ⟨g,k*3+2,none⟩=some (.int .i64 x.2.2):=
 ⟨h.cell Q8e hx 0 _ rfl,h.cell Q8e hx 1 _ rfl,h.cell Q8e hx 2 _ rfl⟩
abbrev Q8v:Fld->World->Nat->Nat->Option Nat->List (Int×Int×Int)->Prop:=Q0x Ul 3 245
abbrev Y7r:Fld->Nat->Nat->Option Nat->List (Int×Int×Int)->World->World->Prop:=Xj Ul 3 245
def Zd(s:Int)(l:List (Int×Int)):List (Int×Int):=l.filter fun x=>decide (x.1≠s)
def Q2d(s:Int)(l:List (Int×Int)):List (Int×Int):=(Zd s l).filter fun x=>decide (x.2≠s)
def Of(s:Int)(l:List (Int×Int×Int)):List (Int×Int×Int):=l.filter fun x=>decide (x.1≠s)
theorem Ux{α:Type}{p:α->Bool}{l:List α}{i:Nat}{x:α}(hx:l[i]? =some x):(l.take (i+1)).filter p=if p x=true then(l.take i).filter p++[x] else(l.take i).filter p:=by
 have:l.take (i+1)=l.take i++[x]:=by rw[List.take_add_one,hx];rfl
 rw[this,List.filter_append]
 split
 ·rename_i h
  simp[h]
 ·rename_i h
  simp[h]
variable{F:Fld}
theorem Uo(w0:World)(tb o:Nat)(row0:Option Nat)(l0:List (Int×Int))(s:Int)(h0:Q3v F w0 tb o row0 l0)(hlen0:l0.length<=100000):
  Calls Tryz.prog 136 #[.pointer (some ⟨tb,o,none⟩),.int .i64 s] w0 fun e w'=>e=.returned (.tuple #[])/\Xj Qj 2 188 F tb o row0 (Zd s l0) w0 w':=by
 obtain⟨it,hi,hz0,hz1,hz2⟩:=info_parts Q4m
 obtain⟨w,rfl⟩:∃w,w=w0:=⟨_,rfl⟩
 obtain⟨l,rfl⟩:∃l,l=l0:=⟨_,rfl⟩
 have h:=h0
 have hlen:=hlen0
 clear h0 hlen0
 obtain⟨⟨v,hv,hc,hown⟩,ha⟩:=h
 obtain⟨A,cap,rfl,hnc,hcm⟩:=hown.slice
 obtain⟨n,hn⟩:∃n,l.length=n:=⟨_,rfl⟩
 rw[hn]at hown hlen hc hnc
 have HN:=Q0 hn
 have HO:=Q0 hown
 have HC:=Q0 hc
 have HTL:=Q0 hc.lt
 clear hown hn hc hv ha
 go_enter Tryz.func136,Tryz.ntmps136
 go_wp2_with fail
 go_loopg [4,5] n (fun kx s4 s5 wr=>∃i:Nat,s5=.int .i64 i/\i<=n/\n - i<=kx/\Sc (Below w.heap.size w wr)/\Sc (Own Qj 2 188 w.heap.size wr s4 ((l.take i).filter fun x=>decide (x.1≠s))))
 case atStart=>exact⟨0,rfl,Nat.zero_le _,by omega,⟨Below.refl _ _⟩,⟨Own.nil⟩⟩
 case round=>
  obtain⟨i,rfl,hin,hg,HB,HR⟩:=hrel
  have hcw:=(HC.o.bel HB.o)
  have c0:=hcw.cell0
  have lc:=hcw.lt
  have f0:=hcw.Qr o
  by_cases hlt:i<n
  ·obtain⟨x,hx⟩:∃x,l[i]? =some x:=⟨_,List.getElem?_eq_getElem (by rw[HN.o];exact hlt)⟩
   obtain⟨g,c2,he,_,_,_,_⟩:=HO.o.form (by rw[HN.o];omega)
   injection he with hA hn2 hC
   subst hA
   obtain⟨d0,d1⟩:=(HO.o.below HB.o).Xb hx
   have HX:=Q0 (Ux (p:=fun x:Int×Int=>decide (x.1≠s)) hx)
   have hil:(i:Int)<n:=by omega
   obtain⟨m,hm⟩:∃m,(l.take i).filter (fun x:Int×Int=>decide (x.1≠s))=m:=⟨_,rfl⟩
   have HML:Sc (m.length<=100000):=⟨by rw[<-hm];exact Nat.le_trans (List.length_filter_le _ _) (by rw[List.length_take];omega)⟩
   rw[hm]at HX HR
   clear hx hn2 hC hm hcw
   by_cases hs:x.1=s
   ·have e1:(x.1==s)=true:=by simp[hs]
    have e2:(x.1 !=s)=false:=by simp[hs]
    have HX2:Sc ((l.take (i+1)).filter (fun x:Int×Int=>decide (x.1≠s))=m):=⟨by rw[HX.o,if_neg (by simp[hs])]⟩
    clear hs
    go_wp2
    go_roundg (n - (i+1))
    case measure=>omega
    case rel=>exact⟨i+1,by go_num,by omega,Nat.le_refl _,HB,⟨by rw[HX2.o];exact HR.o⟩⟩
   ·have e1:(x.1==s)=false:=by simp[hs]
    have e2:(x.1 !=s)=true:=by simp[hs]
    have HX2:Sc ((l.take (i+1)).filter (fun x:Int×Int=>decide (x.1≠s))=m++[x]):=⟨by rw[HX.o,if_pos (by simp[hs])]⟩
    clear hs
    go_wp2_with (at_builtin;go_loud (refine wpList_append_own_at _ rfl (.tmp 25) (.tmp 33) 82 rfl w.heap.size 188 it (.agg #[.int .i64 0,.int .i64 0]) 2 16 Tryz.underlying82 hi hz0 hz1 hz2 rfl (by decide) _ m.length (flat Qj m) rfl (HR.o.alloc _) _ 1 1 (Qj x) rfl rfl ?c1 ?c2 ?c3 ?c4 ?c5 ?_))
    case c1=>exact World.news_of_block (heap_alloc_new _ _)
    case c2=>exact Xh.one x
    case c3=>have:=HML.o;unfold maxLen;omega
    case c4=>have:=HML.o;omega
    case c5=>have:=HB.o.size;simp;omega
    intro v1 w2 h1 h2 h3 h4
    have H1:Sc (Own Qj 2 188 w.heap.size w2 v1 ((l.take (i+1)).filter (fun x:Int×Int=>decide (x.1≠s)))):=⟨by
     rw[HX2.o]
     unfold Own
     rw[Qc,Qm,List.length_append]
     exact h1⟩
    have H2:Sc (Below w.heap.size w w2):=⟨(HB.o.alloc HB.o.size _).grown h2 (by have:=HB.o.size;simp;omega) (fun k hk=>(HR.o.lt k hk).1)⟩
    clear h1 h2 h3 h4 HR HB d0 d1 c0 lc f0
    go_wp2
    go_roundg (n - (i+1))
    case measure=>omega
    case rel=>exact⟨i+1,by go_num,by omega,Nat.le_refl _,H2,H1⟩
  ·obtain rfl:i=n:=by omega
   have HE:Sc ((l.take i).filter (fun x:Int×Int=>decide (x.1≠s))=Zd s l):=⟨by rw[<-HN.o,List.take_length];rfl⟩
   obtain⟨B1,n1,q1,rfl⟩:=HR.o.slice3
   have HCW:=Q0 hcw
   clear hcw
   go_wp2
   go_end0
   refine⟨rfl,?_⟩
   have:=HR.o
   rw[HE.o]at this
   exact Xj.stored HCW.o this HTL.o HB.o
theorem Q6j(w0:World)(tb o:Nat)(row0:Option Nat)(l0:List (Int×Int×Int))(s:Int)(h0:Q8v F w0 tb o row0 l0)(hlen0:l0.length<=100000):
  Calls Tryz.prog 147 #[.pointer (some ⟨tb,o,none⟩),.int .i64 s] w0 fun e w'=>e=.returned (.tuple #[])/\Xj Ul 3 245 F tb o row0 (Of s l0) w0 w':=by
 obtain⟨it,hi,hz0,hz1,hz2⟩:=info_parts X1y
 obtain⟨w,rfl⟩:∃w,w=w0:=⟨_,rfl⟩
 obtain⟨l,rfl⟩:∃l,l=l0:=⟨_,rfl⟩
 have h:=h0
 have hlen:=hlen0
 clear h0 hlen0
 obtain⟨⟨v,hv,hc,hown⟩,ha⟩:=h
 obtain⟨A,cap,rfl,hnc,hcm⟩:=hown.slice
 obtain⟨n,hn⟩:∃n,l.length=n:=⟨_,rfl⟩
 rw[hn]at hown hlen hc hnc
 have HN:=Q0 hn
 have HO:=Q0 hown
 have HC:=Q0 hc
 have HTL:=Q0 hc.lt
 clear hown hn hc hv ha
 go_enter Tryz.func147,Tryz.ntmps147
 go_wp2_with fail
 go_loopg [4,5] n (fun kx s4 s5 wr=>∃i:Nat,s5=.int .i64 i/\i<=n/\n - i<=kx/\Sc (Below w.heap.size w wr)/\Sc (Own Ul 3 245 w.heap.size wr s4 ((l.take i).filter fun x=>decide (x.1≠s))))
 case atStart=>exact⟨0,rfl,Nat.zero_le _,by omega,⟨Below.refl _ _⟩,⟨Own.nil⟩⟩
 case round=>
  obtain⟨i,rfl,hin,hg,HB,HR⟩:=hrel
  have hcw:=(HC.o.bel HB.o)
  have c0:=hcw.cell0
  have lc:=hcw.lt
  have f0:=hcw.Qr o
  by_cases hlt:i<n
  ·obtain⟨x,hx⟩:∃x,l[i]? =some x:=⟨_,List.getElem?_eq_getElem (by rw[HN.o];exact hlt)⟩
   obtain⟨g,c2,he,_,_,_,_⟩:=HO.o.form (by rw[HN.o];omega)
   injection he with hA hn2 hC
   subst hA
   obtain⟨d0,d1,d2⟩:=(HO.o.below HB.o).Q9a hx
   have HX:=Q0 (Ux (p:=fun x:Int×Int×Int=>decide (x.1≠s)) hx)
   have hil:(i:Int)<n:=by omega
   obtain⟨m,hm⟩:∃m,(l.take i).filter (fun x:Int×Int×Int=>decide (x.1≠s))=m:=⟨_,rfl⟩
   have HML:Sc (m.length<=100000):=⟨by rw[<-hm];exact Nat.le_trans (List.length_filter_le _ _) (by rw[List.length_take];omega)⟩
   rw[hm]at HX HR
   clear hx hn2 hC hm hcw
   by_cases hs:x.1=s
   ·have e1:(x.1==s)=true:=by simp[hs]
    have e2:(x.1 !=s)=false:=by simp[hs]
    have HX2:Sc ((l.take (i+1)).filter (fun x:Int×Int×Int=>decide (x.1≠s))=m):=⟨by rw[HX.o,if_neg (by simp[hs])]⟩
    clear hs
    go_wp2
    go_roundg (n - (i+1))
    case measure=>omega
    case rel=>exact⟨i+1,by go_num,by omega,Nat.le_refl _,HB,⟨by rw[HX2.o];exact HR.o⟩⟩
   ·have e1:(x.1==s)=false:=by simp[hs]
    have e2:(x.1 !=s)=true:=by simp[hs]
    have HX2:Sc ((l.take (i+1)).filter (fun x:Int×Int×Int=>decide (x.1≠s))=m++[x]):=⟨by rw[HX.o,if_pos (by simp[hs])]⟩
    clear hs
    go_wp2_with (at_builtin;go_loud (refine wpList_append_own_at _ rfl (.tmp 25) (.tmp 33) 79 rfl w.heap.size 245 it (.agg #[.int .i64 0,.int .i64 0,.int .i64 0]) 3 24 Tryz.underlying79 hi hz0 hz1 hz2 rfl (by decide) _ m.length (flat Ul m) rfl (HR.o.alloc _) _ 1 1 (Ul x) rfl rfl ?c1 ?c2 ?c3 ?c4 ?c5 ?_))
    case c1=>exact World.news_of_block (heap_alloc_new _ _)
    case c2=>exact Q8e.one x
    case c3=>have:=HML.o;unfold maxLen;omega
    case c4=>have:=HML.o;omega
    case c5=>have:=HB.o.size;simp;omega
    intro v1 w2 h1 h2 h3 h4
    have H1:Sc (Own Ul 3 245 w.heap.size w2 v1 ((l.take (i+1)).filter (fun x:Int×Int×Int=>decide (x.1≠s)))):=⟨by
     rw[HX2.o]
     unfold Own
     rw[Qc,Qm,List.length_append]
     exact h1⟩
    have H2:Sc (Below w.heap.size w w2):=⟨(HB.o.alloc HB.o.size _).grown h2 (by have:=HB.o.size;simp;omega) (fun k hk=>(HR.o.lt k hk).1)⟩
    clear h1 h2 h3 h4 HR HB d0 d1 d2 c0 lc f0
    go_wp2
    go_roundg (n - (i+1))
    case measure=>omega
    case rel=>exact⟨i+1,by go_num,by omega,Nat.le_refl _,H2,H1⟩
  ·obtain rfl:i=n:=by omega
   have HE:Sc ((l.take i).filter (fun x:Int×Int×Int=>decide (x.1≠s))=Of s l):=⟨by rw[<-HN.o,List.take_length];rfl⟩
   obtain⟨B1,n1,q1,rfl⟩:=HR.o.slice3
   have HCW:=Q0 hcw
   clear hcw
   go_wp2
   go_end0
   refine⟨rfl,?_⟩
   have:=HR.o
   rw[HE.o]at this
   exact Xj.stored HCW.o this HTL.o HB.o
theorem Q7h(w0:World)(tb o:Nat)(row0:Option Nat)(l0:List (Int×Int))(s:Int)(h0:Q3v F w0 tb o row0 l0)(hlen0:l0.length<=100000):
  Calls Tryz.prog 148 #[.pointer (some ⟨tb,o,none⟩),.int .i64 s] w0 fun e w'=>e=.returned (.tuple #[])/\Xj Qj 2 188 F tb o row0 (Q2d s l0) w0 w':=by
 obtain⟨it,hi,hz0,hz1,hz2⟩:=info_parts Q4m
 have HH:=Q0 h0
 have HLL:=Q0 hlen0
 have hlen:(Zd s l0).length<=100000:=Nat.le_trans (List.length_filter_le _ _) hlen0
 clear h0 hlen0
 go_enter Tryz.func148,Tryz.ntmps148
 go_wp2_with fail
 refine(Uo w0 tb o row0 l0 s HH.o HLL.o).mono ?_
 rintro e w ⟨rfl,row,h,hk,hat⟩
 have HKP:=Q0 hk
 have HAT:=Q0 hat
 obtain⟨l,hl⟩:∃l,Zd s l0=l:=⟨_,rfl⟩
 rw[hl]at h hlen
 have HLC:=Q0 hl
 clear hk hat hl
 obtain⟨⟨v,hv,hc,hown⟩,ha⟩:=h
 obtain⟨A,cap,rfl,hnc,hcm⟩:=hown.slice
 obtain⟨n,hn⟩:∃n,l.length=n:=⟨_,rfl⟩
 rw[hn]at hown hlen hc hnc
 have HN:=Q0 hn
 have HO:=Q0 hown
 have HC:=Q0 hc
 have HTL:=Q0 hc.lt
 clear hown hn hc hv ha
 go_wp2_with fail
 go_loopg [4,5] n (fun kx s4 s5 wr=>∃i:Nat,s5=.int .i64 i/\i<=n/\n - i<=kx/\Sc (Below w.heap.size w wr)/\Sc (Own Qj 2 188 w.heap.size wr s4 ((l.take i).filter fun x=>decide (x.2≠s))))
 case atStart=>exact⟨0,rfl,Nat.zero_le _,by omega,⟨Below.refl _ _⟩,⟨Own.nil⟩⟩
 case round=>
  obtain⟨i,rfl,hin,hg,HB,HR⟩:=hrel
  have hcw:=(HC.o.bel HB.o)
  have c0:=hcw.cell0
  have lc:=hcw.lt
  have f0:=hcw.Qr o
  by_cases hlt:i<n
  ·obtain⟨x,hx⟩:∃x,l[i]? =some x:=⟨_,List.getElem?_eq_getElem (by rw[HN.o];exact hlt)⟩
   obtain⟨g,c2,he,_,_,_,_⟩:=HO.o.form (by rw[HN.o];omega)
   injection he with hA hn2 hC
   subst hA
   obtain⟨d0,d1⟩:=(HO.o.below HB.o).Xb hx
   have HX:=Q0 (Ux (p:=fun x:Int×Int=>decide (x.2≠s)) hx)
   have hil:(i:Int)<n:=by omega
   obtain⟨m,hm⟩:∃m,(l.take i).filter (fun x:Int×Int=>decide (x.2≠s))=m:=⟨_,rfl⟩
   have HML:Sc (m.length<=100000):=⟨by rw[<-hm];exact Nat.le_trans (List.length_filter_le _ _) (by rw[List.length_take];omega)⟩
   rw[hm]at HX HR
   clear hx hn2 hC hm hcw
   by_cases hs:x.2=s
   ·have e1:(x.2==s)=true:=by simp[hs]
    have e2:(x.2 !=s)=false:=by simp[hs]
    have HX2:Sc ((l.take (i+1)).filter (fun x:Int×Int=>decide (x.2≠s))=m):=⟨by rw[HX.o,if_neg (by simp[hs])]⟩
    clear hs
    go_wp2
    go_roundg (n - (i+1))
    case measure=>omega
    case rel=>exact⟨i+1,by go_num,by omega,Nat.le_refl _,HB,⟨by rw[HX2.o];exact HR.o⟩⟩
   ·have e1:(x.2==s)=false:=by simp[hs]
    have e2:(x.2 !=s)=true:=by simp[hs]
    have HX2:Sc ((l.take (i+1)).filter (fun x:Int×Int=>decide (x.2≠s))=m++[x]):=⟨by rw[HX.o,if_pos (by simp[hs])]⟩
    clear hs
    go_wp2_with (at_builtin;go_loud (refine wpList_append_own_at _ rfl (.tmp 28) (.tmp 36) 82 rfl w.heap.size 188 it (.agg #[.int .i64 0,.int .i64 0]) 2 16 Tryz.underlying82 hi hz0 hz1 hz2 rfl (by decide) _ m.length (flat Qj m) rfl (HR.o.alloc _) _ 1 1 (Qj x) rfl rfl ?c1 ?c2 ?c3 ?c4 ?c5 ?_))
    case c1=>exact World.news_of_block (heap_alloc_new _ _)
    case c2=>exact Xh.one x
    case c3=>have:=HML.o;unfold maxLen;omega
    case c4=>have:=HML.o;omega
    case c5=>have:=HB.o.size;simp;omega
    intro v1 w2 h1 h2 h3 h4
    have H1:Sc (Own Qj 2 188 w.heap.size w2 v1 ((l.take (i+1)).filter (fun x:Int×Int=>decide (x.2≠s)))):=⟨by
     rw[HX2.o]
     unfold Own
     rw[Qc,Qm,List.length_append]
     exact h1⟩
    have H2:Sc (Below w.heap.size w w2):=⟨(HB.o.alloc HB.o.size _).grown h2 (by have:=HB.o.size;simp;omega) (fun k hk=>(HR.o.lt k hk).1)⟩
    clear h1 h2 h3 h4 HR HB d0 d1 c0 lc f0
    go_wp2
    go_roundg (n - (i+1))
    case measure=>omega
    case rel=>exact⟨i+1,by go_num,by omega,Nat.le_refl _,H2,H1⟩
  ·obtain rfl:i=n:=by omega
   have HE:Sc ((l.take i).filter (fun x:Int×Int=>decide (x.2≠s))=Q2d s l0):=⟨by rw[<-HN.o,List.take_length];unfold Q2d;rw[HLC.o]⟩
   obtain⟨B1,n1,q1,rfl⟩:=HR.o.slice3
   have HCW:=Q0 hcw
   clear hcw
   go_wp2
   go_end0
   refine⟨rfl,?_⟩
   have:=HR.o
   rw[HE.o]at this
   exact Xj.trans HKP.o HAT.o (Xj.stored HCW.o this HTL.o HB.o)
end
section
set_option maxHeartbeats 4000000
set_option maxRecDepth 4000
def Cu{α:Type}(p:α->Bool)(f:α->Int)(l:List α):List Int:=(l.filter p).foldl (fun o x=>rin o (f x)) []
theorem Q8a{α:Type}{p:α->Bool}{f:α->Int}{l:List α}{i:Nat}{x:α}(hx:l[i]? =some x):Cu p f (l.take (i+1))=if p x=true then rin (Cu p f (l.take i)) (f x) else Cu p f (l.take i):=by
 have:l.take (i+1)=l.take i++[x]:=by rw[List.take_add_one,hx];rfl
 unfold Cu
 rw[this,List.filter_append]
 split
 ·rename_i h
  simp[h]
 ·rename_i h
  simp[h]
theorem Em{α:Type}(p:α->Bool)(f:α->Int)(l:List α):(Cu p f l).length<=l.length:=by
 have h:∀(m:List α) (o:List Int),(m.foldl (fun o x=>rin o (f x)) o).length<=o.length+m.length:=by
  intro m
  induction m with
  |nil=>intro o;simp
  |cons x r ih=>
   intro o
   have h1:=ih (rin o (f x))
   have h2:=Ce o (f x)
   simp only[List.foldl_cons,List.length_cons]
   omega
 have h1:=h (l.filter p) []
 have h2:=List.length_filter_le p l
 unfold Cu
 simp at h1
 omega
theorem X1f{α:Type}{p:α->Bool}{f:α->Int}{l:List α}{n:Int}:n∈Cu p f l↔∃x∈l,p x=true/\f x=n:=by
 have h:∀(m:List α) (o:List Int),n∈m.foldl (fun o x=>rin o (f x)) o↔n∈o\/∃x∈m,f x=n:=by
  intro m
  induction m with
  |nil=>intro o;simp
  |cons x r ih=>
   intro o
   rw[List.foldl_cons,ih,Q3l]
   constructor
   ·rintro((h|h)|⟨y,hy,hf⟩)
    ·exact .inr ⟨x,List.mem_cons_self,h.symm⟩
    ·exact .inl h
    ·exact .inr ⟨y,List.mem_cons_of_mem _ hy,hf⟩
   ·rintro(h|⟨y,hy,hf⟩)
    ·exact .inl (.inr h)
    ·rcases List.mem_cons.1 hy with rfl|hy
     ·exact .inl (.inl hf.symm)
     ·exact .inr ⟨y,hy,hf⟩
 unfold Cu
 rw[h]
 constructor
 ·rintro(h|⟨x,hx,hf⟩)
  ·cases h
  ·have:=List.mem_filter.1 hx
   exact⟨x,this.1,this.2,hf⟩
 ·rintro⟨x,hx,hp,hf⟩
  exact .inr ⟨x,List.mem_filter.2 ⟨hx,hp⟩,hf⟩
def Q7k(s key mode:Int)(h:Int×Int×Int):Bool:=decide (h.1≠s)&&(decide (h.2.1=key)&&(decide (mode=2)||(decide (mode=1)&&decide (h.2.2=2))))
def D6(s key mode:Int)(l:List (Int×Int×Int)):List Int:=Cu (Q7k s key mode) (fun h=>h.1) l
def V3(l:List (Int×Int×Int)):List Int:=Cu (fun h=>decide (h.2.2=2)) (fun h=>h.2.1) l
variable{F:Fld}
theorem Q6k(w:World)(tb o:Nat)(row:Option Nat)(l:List (Int×Int×Int))(h:Q8v F w tb o row l)(hlen:l.length<=100000):
  Calls Tryz.prog 142 #[.pointer (some ⟨tb,o,none⟩)] w fun e w'=>∃v',e=.returned v'/\Own X6 1 3 0 w' v' (V3 l)/\Below w.heap.size w w':=by
 obtain⟨⟨v,hv,hc,hown⟩,ha⟩:=h
 obtain⟨A,cap,rfl,hnc,hcm⟩:=hown.slice
 obtain⟨n,hn⟩:∃n,l.length=n:=⟨_,rfl⟩
 rw[hn]at hown hlen hc hnc
 have HN:=Q0 hn
 have HO:=Q0 hown
 have HC:=Q0 hc
 clear hown hn hc hv ha
 go_enter Tryz.func142,Tryz.ntmps142
 go_wp2_with fail
 go_loopg [3,4] n (fun kx s5 s6 wr=>∃i:Nat,s6=.int .i64 i/\i<=n/\n - i<=kx/\Sc (Below w.heap.size w wr)/\Sc (Own X6 1 3 0 wr s5 (V3 (l.take i))))
 case atStart=>exact⟨0,rfl,Nat.zero_le _,by omega,⟨Below.refl _ _⟩,⟨Own.nil⟩⟩
 case round=>
  obtain⟨i,rfl,hin,hg,HB,HR⟩:=hrel
  have hcw:=(HC.o.bel HB.o)
  have c0:=hcw.cell0
  have lc:=hcw.lt
  clear hcw
  by_cases hlt:i<n
  ·obtain⟨x,hx⟩:∃x,l[i]? =some x:=⟨_,List.getElem?_eq_getElem (by rw[HN.o];exact hlt)⟩
   obtain⟨g,c2,he,_,_,_,_⟩:=HO.o.form (by rw[HN.o];omega)
   injection he with hA hn2 hC
   subst hA
   obtain⟨d0,d1,d2⟩:=(HO.o.below HB.o).Q9a hx
   have HX:=Q0 (Q8a (p:=fun h:Int×Int×Int=>decide (h.2.2=2)) (f:=fun h=>h.2.1) hx)
   have hil:(i:Int)<n:=by omega
   clear hx hn2 hC
   by_cases hs:x.2.2=2
   ·have e1:(x.2.2==2)=true:=by simp[hs]
    have HX2:Sc (V3 (l.take (i+1))=rin (V3 (l.take i)) x.2.1):=⟨by unfold V3;rw[HX.o,if_pos (by simp[hs])]⟩
    clear hs
    go_wp2_with fail
    refine(E4 _ 0 _ (V3 (l.take i)) x.2.1 HR.o (by have:=Em (fun h:Int×Int×Int=>decide (h.2.2=2)) (fun h=>h.2.1) (l.take i);unfold V3;rw[List.length_take]at this;omega)).mono ?_
    rintro e w2 ⟨v2,rfl,ho,hb⟩
    have HB2:=Q0 (Q5 HB.o hb)
    have HO2:Sc (Own X6 1 3 0 w2 v2 (V3 (l.take (i+1)))):=⟨by rw[HX2.o];exact ho⟩
    clear ho hb d0 d1 d2 c0 lc
    go_wp2
    go_roundg (n - (i+1))
    case measure=>omega
    case rel=>exact⟨i+1,by go_num,by omega,Nat.le_refl _,HB2,HO2⟩
   ·have e1:(x.2.2==2)=false:=by simp[hs]
    have HX2:Sc (V3 (l.take (i+1))=V3 (l.take i)):=⟨by unfold V3;rw[HX.o,if_neg (by simp[hs])]⟩
    clear hs
    go_wp2
    go_roundg (n - (i+1))
    case measure=>omega
    case rel=>exact⟨i+1,by go_num,by omega,Nat.le_refl _,HB,⟨by rw[HX2.o];exact HR.o⟩⟩
  ·obtain rfl:i=n:=by omega
   have HE:Sc (l.take i=l):=⟨by rw[<-HN.o,List.take_length]⟩
   go_wp2
   go_ret
   exact⟨_,rfl,by have:=HR.o;rwa [HE.o]at this,HB.o⟩
theorem Q0e(w:World)(tb o:Nat)(row:Option Nat)(l:List (Int×Int×Int))(s key mode:Int)(h:Q8v F w tb o row l)(hlen:l.length<=100000):
  Calls Tryz.prog 138 #[.pointer (some ⟨tb,o,none⟩),.int .i64 s,.int .i64 key,.int .i64 mode] w fun e w'=>∃v',e=.returned v'/\Own X6 1 3 0 w' v' (D6 s key mode l)/\Below w.heap.size w w':=by
 obtain⟨⟨v,hv,hc,hown⟩,ha⟩:=h
 obtain⟨A,cap,rfl,hnc,hcm⟩:=hown.slice
 obtain⟨n,hn⟩:∃n,l.length=n:=⟨_,rfl⟩
 rw[hn]at hown hlen hc hnc
 have HN:=Q0 hn
 have HO:=Q0 hown
 have HC:=Q0 hc
 clear hown hn hc hv ha
 go_enter Tryz.func138,Tryz.ntmps138
 go_wp2_with fail
 go_loopg [9,10] n (fun kx s5 s6 wr=>∃i:Nat,s6=.int .i64 i/\i<=n/\n - i<=kx/\Sc (Below w.heap.size w wr)/\Sc (Own X6 1 3 0 wr s5 (D6 s key mode (l.take i))))
 case atStart=>exact⟨0,rfl,Nat.zero_le _,by omega,⟨Below.refl _ _⟩,⟨Own.nil⟩⟩
 case round=>
  obtain⟨i,rfl,hin,hg,HB,HR⟩:=hrel
  have hcw:=(HC.o.bel HB.o)
  have c0:=hcw.cell0
  have lc:=hcw.lt
  clear hcw
  by_cases hlt:i<n
  ·obtain⟨x,hx⟩:∃x,l[i]? =some x:=⟨_,List.getElem?_eq_getElem (by rw[HN.o];exact hlt)⟩
   obtain⟨g,c2,he,_,_,_,_⟩:=HO.o.form (by rw[HN.o];omega)
   injection he with hA hn2 hC
   subst hA
   obtain⟨d0,d1,d2⟩:=(HO.o.below HB.o).Q9a hx
   have HX:=Q0 (Q8a (p:=Q7k s key mode) (f:=fun h=>h.1) hx)
   have HBX:Sc (Below w.heap.size w (wr.alloc (.cells (Ul x).toArray 245))):=⟨Q3 HB.o _⟩
   have HRX:=Q0 (HR.o.alloc (.cells (Ul x).toArray 245))
   have HZ:=Q0 (heap_alloc_new wr (.cells (Ul x).toArray 245))
   have hil:(i:Int)<n:=by omega
   clear hx hn2 hC
   go_upto_region 6 with fail
   obtain⟨wb,hwb⟩:∃wb,wr.alloc (.cells (Ul x).toArray 245)=wb:=⟨_,rfl⟩
   obtain⟨b,hb⟩:∃b,wr.heap.size=b:=⟨_,rfl⟩
   rw[show wr.alloc (.cells #[.int .i64 x.1,.int .i64 x.2.1,.int .i64 x.2.2] 245)=wb from hwb,hb]
   rw[hwb]at HBX HRX HZ
   rw[hb]at HZ
   clear hwb hb c0 lc d0 d1 d2
   have q0:wb.cell? ⟨b,0,none⟩=some (.int .i64 x.1):=by simp[World.cell?,HZ.o,Ul]
   have q1:wb.cell? ⟨b,1,none⟩=some (.int .i64 x.2.1):=by simp[World.cell?,HZ.o,Ul]
   have q2:wb.cell? ⟨b,2,none⟩=some (.int .i64 x.2.2):=by simp[World.cell?,HZ.o,Ul]
   have lq:=Q6 HZ.o
   obtain⟨p,hp⟩:∃p,Q7k s key mode x=p:=⟨_,rfl⟩
   have HPP:=Q0 hp
   rw[hp]at HX
   clear hp
   go_cut [50] from 28 to 50 (fun s50 wx=>s50=.bool p/\wb=wx)
   case first=>
    by_cases h1:x.1=s
    ·have e1:(x.1==s)=true:=by simp[h1]
     have n1:(x.1 !=s)=false:=by simp[h1]
     have HE:Sc (p=false):=⟨by rw[<-HPP.o];simp[Q7k,h1]⟩
     clear h1
     go_wp2_with fail
     go_meet
     case rel=>exact⟨by rw[HE.o],rfl⟩
    have e1:(x.1==s)=false:=by simp[h1]
    have n1:(x.1 !=s)=true:=by simp[h1]
    by_cases h2:x.2.1=key
    case neg=>
     have e2:(x.2.1==key)=false:=by simp[h2]
     have HE:Sc (p=false):=⟨by rw[<-HPP.o];simp[Q7k,h2]⟩
     clear h1 h2
     go_wp2_with fail
     go_meet
     case rel=>exact⟨by rw[HE.o],rfl⟩
    have e2:(x.2.1==key)=true:=by simp[h2]
    by_cases h3:mode=2
    ·have e3:(mode==2)=true:=by simp[h3]
     have HE:Sc (p=true):=⟨by rw[<-HPP.o];simp[Q7k,h1,h2,h3]⟩
     clear h1 h2 h3
     go_wp2_with fail
     go_meet
     case rel=>exact⟨by rw[HE.o],rfl⟩
    have e3:(mode==2)=false:=by simp[h3]
    by_cases h4:mode=1
    case neg=>
     have e4:(mode==1)=false:=by simp[h4]
     have HE:Sc (p=false):=⟨by rw[<-HPP.o];simp[Q7k,h3,h4]⟩
     clear h1 h2 h3 h4
     go_wp2_with fail
     go_meet
     case rel=>exact⟨by rw[HE.o],rfl⟩
    have e4:(mode==1)=true:=by simp[h4]
    by_cases h5:x.2.2=2
    ·have e5:(x.2.2==2)=true:=by simp[h5]
     have HE:Sc (p=true):=⟨by rw[<-HPP.o];simp[Q7k,h1,h2,h4,h5]⟩
     clear h1 h2 h3 h4 h5
     go_wp2_with fail
     go_meet
     case rel=>exact⟨by rw[HE.o],rfl⟩
    ·have e5:(x.2.2==2)=false:=by simp[h5]
     have HE:Sc (p=false):=⟨by rw[<-HPP.o];simp[Q7k,h3,h5]⟩
     clear h1 h2 h3 h4 h5
     go_wp2_with fail
     go_meet
     case rel=>exact⟨by rw[HE.o],rfl⟩
   case rest=>
    obtain⟨rfl,rfl⟩:=hcut
    cases p
    ·have HX2:Sc (D6 s key mode (l.take (i+1))=D6 s key mode (l.take i)):=⟨by unfold D6;rw[HX.o];rfl⟩
     go_wp2
     go_roundg (n - (i+1))
     case measure=>omega
     case rel=>exact⟨i+1,by go_num,by omega,Nat.le_refl _,HBX,⟨by rw[HX2.o];exact HRX.o⟩⟩
    ·have HX2:Sc (D6 s key mode (l.take (i+1))=rin (D6 s key mode (l.take i)) x.1):=⟨by unfold D6;rw[HX.o];rfl⟩
     go_wp2_with fail
     refine(E4 _ 0 _ (D6 s key mode (l.take i)) x.1 HRX.o (by have:=Em (Q7k s key mode) (fun h=>h.1) (l.take i);unfold D6;rw[List.length_take]at this;omega)).mono ?_
     rintro e w2 ⟨v2,rfl,ho,hb⟩
     have HB2:=Q0 (Q5 HBX.o hb)
     have HO2:Sc (Own X6 1 3 0 w2 v2 (D6 s key mode (l.take (i+1)))):=⟨by rw[HX2.o];exact ho⟩
     clear ho hb q0 q1 q2 lq
     go_wp2
     go_roundg (n - (i+1))
     case measure=>omega
     case rel=>exact⟨i+1,by go_num,by omega,Nat.le_refl _,HB2,HO2⟩
  ·obtain rfl:i=n:=by omega
   have HE:Sc (l.take i=l):=⟨by rw[<-HN.o,List.take_length]⟩
   go_wp2
   go_ret
   exact⟨_,rfl,by have:=HR.o;rwa [HE.o]at this,HB.o⟩
end
section
def Zu(s key mode:Int):List (Int×Int×Int)->List (Int×Int×Int)
 |[]=>[(s,key,mode)]
 |h::r=>if h.1=s/\h.2.1=key then(h.1,h.2.1,max h.2.2 mode)::r else h::Zu s key mode r
theorem Q5q{s key mode:Int}{l:List (Int×Int×Int)}{i:Nat}{x:Int×Int×Int}(hx:l[i]? =some x)(hn:¬(x.1=s/\x.2.1=key))(h:Zu s key mode l=l.take i++Zu s key mode (l.drop i)):Zu s key mode l=l.take (i+1)++Zu s key mode (l.drop (i+1)):=by
 rw[h,List.drop_eq_getElem_cons (List.getElem?_eq_some_iff.mp hx).1,(List.getElem?_eq_some_iff.mp hx).2,Zu,if_neg hn,List.take_add_one,hx]
 simp
theorem X6v{s key mode:Int}{l:List (Int×Int×Int)}{i:Nat}{x:Int×Int×Int}(hx:l[i]? =some x)(hn:x.1=s/\x.2.1=key)(h:Zu s key mode l=l.take i++Zu s key mode (l.drop i)):Zu s key mode l=l.set i (x.1,x.2.1,max x.2.2 mode):=by
 have hlt:=(List.getElem?_eq_some_iff.mp hx).1
 rw[h,List.drop_eq_getElem_cons hlt,(List.getElem?_eq_some_iff.mp hx).2,Zu,if_pos hn,List.set_eq_take_append_cons_drop,if_pos hlt]
variable{F:Fld}
set_option maxRecDepth 4000 in
set_option maxHeartbeats 4000000 in
theorem Q6l(w:World)(tb o:Nat)(row:Option Nat)(l:List (Int×Int×Int))(s key mode:Int)(h:Q8v F w tb o row l)(hm:mode=1\/mode=2)(hwho:D6 s key mode l=[])(hlen:l.length<=100000):
  Calls Tryz.prog 141 #[.pointer (some ⟨tb,o,none⟩),.int .i64 s,.int .i64 key,.int .i64 mode] w fun e w'=>e=.returned (.bool true)/\Y7r F tb o row (Zu s key mode l) w w':=by
 obtain⟨it,hi,hz0,hz1,hz2⟩:=info_parts X1y
 have HW:=Q0 hwho
 have HH:=Q0 h
 have HTL:=Q0 h.lt
 have hlen0:=hlen
 clear hwho
 obtain⟨p1,hp1⟩:∃p1,(mode !=1)=p1:=⟨_,rfl⟩
 have hp2:p1=true->(mode !=2)=false:=by
  intro h
  rcases hm with rfl|rfl
  ·rw[<-hp1]at h;cases h
  ·rfl
 have HP2:=Q0 hp2
 clear hm hp2
 cases p1
 case' true=>have m2:=HP2.o rfl
 all_goals
  go_enter Tryz.func141,Tryz.ntmps141
  go_wp2_with fail
  refine(Q0e w tb o row l s key mode HH.o hlen0).mono ?_
  rw[HW.o]
  rintro e w1 ⟨vw,rfl,ho,hb⟩
  obtain⟨Aw,nw,cw,rfl⟩:=ho.slice3
  obtain rfl:nw=0:=ho.len
  have HB1:=Q0 hb
  have HH1:=Q0 (HH.o.bel hb)
  obtain⟨⟨v,hv,hc,hown⟩,ha⟩:=HH1.o
  obtain⟨A,cap,rfl,hnc,hcm⟩:=hown.slice
  obtain⟨n,hn⟩:∃n,l.length=n:=⟨_,rfl⟩
  rw[hn]at hown hlen hc hnc hv
  have HN:=Q0 hn
  have HO:=Q0 hown
  have HC:=Q0 hc
  have HV:=Q0 hv
  have HA:=Q0 ha
  have c0:=hc.cell0
  have lc:=hc.lt
  have f0:=hc.Qr o
  clear hown hn hc hv ha ho hb
  go_wp2_with fail
  go_loopg [9] n (fun kx s9 wr=>∃i:Nat,s9=.int .i64 i/\i<=n/\n - i<=kx/\wr=w1/\Sc (Zu s key mode l=l.take i++Zu s key mode (l.drop i)))
  case atStart=>exact⟨0,rfl,Nat.zero_le _,by omega,rfl,⟨by simp⟩⟩
  case round=>
   obtain⟨i,rfl,hin,hg,rfl,HT⟩:=hrel
   by_cases hlt:i<n
   ·obtain⟨x,hx⟩:∃x,l[i]? =some x:=⟨_,List.getElem?_eq_getElem (by rw[HN.o];exact hlt)⟩
    obtain⟨g,c2,he,_,_,_,_⟩:=HO.o.form (by rw[HN.o];omega)
    injection he with hA hn2 hC
    subst hA
    obtain⟨d0,d1,d2⟩:=HO.o.Q9a hx
    have fg:=HO.o.Qr (i*3+2)
    have hil:(i:Int)<n:=by omega
    have HX:=Q0 hx
    clear hx hn2 hC
    by_cases h1:x.1=s
    ·have e1:(x.1==s)=true:=by simp[h1]
     by_cases h2:x.2.1=key
     ·have e2:(x.2.1==key)=true:=by simp[h2]
      have HE:=Q0 (X6v HX.o ⟨h1,h2⟩ HT.o)
      have lg:=World.block_lt_of_cell? _ _ d2
      have hgt:¬tb=g:=fun he=>HA.o (by rw[<-HV.o,he];rfl)
      have hgt':¬g=tb:=fun he=>hgt he.symm
      obtain⟨z,hz⟩:∃z,max x.2.2 mode=z:=⟨_,rfl⟩
      rw[hz]at HE
      have HS:=Q0 (Own.set Q8e HO.o (k:=i) (j:=2) (x:=x) (x':=(x.1,x.2.1,z)) (u:=.int .i64 z) HX.o (by omega) rfl)
      have HB2:=HB1
      clear h1 h2
      rcases Int.lt_or_le x.2.2 mode with hmx|hmx
      ·obtain rfl:mode=z:=by omega
       clear hz
       go_wp2_with fail
       go_region
       all_goals
        go_wp2
       all_goals
        go_ret
        refine⟨rfl,?_⟩
        rw[HE.o]
        first|exact(Xj.Q3h HC.o HS.o HV.o HB2.o HA.o).drew|exact Xj.Q3h HC.o HS.o HV.o HB2.o HA.o
      ·obtain rfl:x.2.2=z:=by omega
       clear hz
       go_wp2_with fail
       go_region
       all_goals
        go_wp2
       all_goals
        go_ret
        refine⟨rfl,?_⟩
        rw[HE.o]
        first|exact(Xj.Q3h HC.o HS.o HV.o HB2.o HA.o).drew|exact Xj.Q3h HC.o HS.o HV.o HB2.o HA.o
     ·have e2:(x.2.1==key)=false:=by simp[h2]
      have HE:=Q0 (Q5q (mode:=mode) HX.o (fun h=>h2 h.2) HT.o)
      clear h1 h2
      go_wp2
      go_roundg (n - (i+1))
      case measure=>omega
      case rel=>exact⟨i+1,by go_num,by omega,Nat.le_refl _,rfl,HE⟩
    ·have e1:(x.1==s)=false:=by simp[h1]
     have HE:=Q0 (Q5q (mode:=mode) HX.o (fun h=>h1 h.1) HT.o)
     clear h1
     go_wp2
     go_roundg (n - (i+1))
     case measure=>omega
     case rel=>exact⟨i+1,by go_num,by omega,Nat.le_refl _,rfl,HE⟩
   ·obtain rfl:i=n:=by omega
    have HE:Sc (Zu s key mode l=l++[(s,key,mode)]):=⟨by rw[HT.o,<-HN.o,List.take_length,List.drop_length];rfl⟩
    go_wp2_with (at_builtin;go_loud (refine wpList_append_own_at _ rfl (.tmp 77) (.tmp 82) 79 rfl 0 245 it (.agg #[.int .i64 0,.int .i64 0,.int .i64 0]) 3 24 Tryz.underlying79 hi hz0 hz1 hz2 rfl (by decide) _ i (flat Ul l) rfl ((HO.o.rows HN.o).alloc _) _ 1 1 (Ul (s,key,mode)) rfl rfl ?c1 ?c2 ?c3 ?c4 ?c5 ?_))
    case c1=>exact World.news_of_block (heap_alloc_new _ _)
    case c2=>exact Q8e.one _
    case c3=>unfold maxLen;omega
    case c4=>omega
    case c5=>exact Nat.zero_le _
    intro v1 w2 h1 h2 h3 h4
    have H1:Sc (Own Ul 3 245 0 w2 v1 (Zu s key mode l)):=⟨Own.Qv h1 (by rw[HE.o,List.length_append,HN.o];rfl) (by rw[HE.o,Qc,Qm])⟩
    have HK2:Sc (Kp (fun q=>q=tb\/some q=row) w w2):=⟨((Kp.Qi HB1.o _).trans (Kp.alloc wr _ (fun _=>False)) (fun _ h=>h.elim)).trans (Kp.Zl h2) (fun q hq=> .inl (.inr (by rw[hq,HV.o])))⟩
    have HAT:Sc (∀q,v1.ownBlock=some q->row=some q\/w.heap.size<=q):=⟨fun q hq=>by
     rcases h4 with h4|h4
     ·exact .inl (by rw[<-HV.o,<-h4];exact hq)
     ·rw[h4]at hq
      injection hq with hq
      have:=HB1.o.size
      exact .inr (by omega)⟩
    have HC2:Sc (F.has w2 tb o #[.slice A i cap]):=⟨(HC.o.bel (Q3 (Below.refl _ _) _)).kp (Kp.Zl h2) (fun he=>HA.o (by rw[<-HV.o];exact he.symm))⟩
    have c2:=HC2.o.cell0
    have l2:=HC2.o.lt
    have f2:=HC2.o.Qr o
    obtain⟨A1,n1,q1,rfl⟩:=H1.o.slice3
    clear h1 h2 h3 h4 c0 lc f0
    go_wp2
    go_ret
    exact⟨rfl,Xj.put HC2.o H1.o HTL.o HA.o HK2.o HAT.o⟩
end
end Go.Proofs.YtoapihepdallbaaGreatDoor
