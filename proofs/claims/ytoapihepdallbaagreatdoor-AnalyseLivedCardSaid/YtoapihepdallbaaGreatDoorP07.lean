import Derived.Deep.CutRange
import Derived.Deep.CutBlock
import Derived.Test.YtoapihepdallbaaGreatDoorRows
import Derived.Stop.LaidErr
import Derived.MakeChecks
import Derived.LaidEql
import Derived.Stop.IfaceNil
import Derived.Test.YtoapihepdallbaaGreatDoorP06
namespace Go.Proofs.YtoapihepdallbaaGreatDoor
open Go.RowKit
section
set_option maxHeartbeats 4000000
set_option maxRecDepth 4000
variable{Rd:Fld}{o:Nat}
structure Gm(Rd:Fld)(o:Nat)(w:World)(tb:Nat)(row:Option Nat)(l:List (Int×Int)):Prop where
 val:∃v:Value,v.ownBlock=row/\Rd.has w tb o #[v]/\Own Qj 2 60 0 w v l
 apart:row≠some tb
 rising:Qd l
theorem Gm.kp{w w':World}{tb:Nat}{row:Option Nat}{l:List (Int×Int)}{S:Nat->Prop}(h:Gm Rd o w tb row l)(k:Kp S w w')(h1:¬S tb)(h2:∀q,row=some q->¬S q):Gm Rd o w' tb row l:=by
 obtain⟨⟨v,hv,hc,hown⟩,hap,hr⟩:=h
 exact⟨⟨v,hv,hc.kp k h1,hown.kp k (fun q hq=>h2 q (by rw[<-hv];exact hq))⟩,hap,hr⟩
theorem Gm.bel{w w':World}{tb:Nat}{row:Option Nat}{l:List (Int×Int)}(h:Gm Rd o w tb row l)(hb:Below w.heap.size w w'):Gm Rd o w' tb row l:=h.kp (Kp.Qi hb (fun _=>False)) id (fun _ _=>id)
def J5(Rd:Fld)(o:Nat)(tb:Nat)(row:Option Nat)(l:List (Int×Int))(w w':World):Prop:=
 ∃row',Gm Rd o w' tb row' l/\Kp (fun q=>q=tb\/some q=row) w w'/\(row'=row\/∀q,row'=some q->w.heap.size<=q)
theorem J5.same{tb:Nat}{row:Option Nat}{l:List (Int×Int)}{w w':World}(h:Gm Rd o w tb row l)(hb:Below w.heap.size w w'):J5 Rd o tb row l w w':=⟨row,h.bel hb,Kp.Qi hb _,.inl rfl⟩
theorem J5.stored{tb:Nat}{row:Option Nat}{l:List (Int×Int)}{w w2:World}{v u:Value}(hc:Rd.has w2 tb o #[u])(hown:Own Qj 2 60 0 w2 v l)(hr:Qd l)
  (hlt:tb<w.heap.size) (hk:Kp (fun q=>q=tb\/some q=row) w w2) (hat:∀q,v.ownBlock=some q->w.heap.size<=q):J5 Rd o tb row l w (w2.setCell ⟨tb,o,none⟩ v):=by
 have hne:v.ownBlock≠some tb:=by
  intro he
  have:=hat _ he;omega
 refine⟨v.ownBlock,⟨⟨v,rfl,?_,hown.kp (Kp.setCell w2 _ v) (fun q hq he=>hne (by rw[hq,he]))⟩,hne,hr⟩,?_,.inr hat⟩
 ·exact hc.Y7m v
 ·exact hk.trans (Kp.setCell w2 ⟨tb,o,none⟩ v) (fun q hq=> .inl (.inl hq))
theorem Dj(w:World)(tb:Nat)(row:Option Nat)(l:List (Int×Int))(p:Int)(h:Gm Rd o w tb row l)(hlen:l.length<=1000000):
  Calls Tryz.prog 111 #[.pointer (some ⟨tb,o,none⟩),.int .i64 p] w fun e w'=>e=.returned (.tuple #[.int .i64 ((look l p).getD 0),.bool (has l p)])/\w=w':=by
 obtain⟨⟨v,hv,hc,hown⟩,hap,hr⟩:=h
 obtain⟨A,cap,rfl,hnc,hcm⟩:=hown.slice
 obtain⟨n,hn⟩:∃n,l.length=n:=⟨_,rfl⟩
 rw[hn]at hown hlen hc
 have hc1:=hc.cell0
 have HN:=Q0 hn
 have HO:=Q0 hown
 have HR:=Q0 hr
 clear hown hr hc hv hap hn hnc
 go_enter Tryz.func111,Tryz.ntmps111
 go_wp2
 go_loop [6] (fun s6=>∃i:Nat,s6=.int .i64 i/\i<=n/\Sc (∀j x,j<i->l[j]? =some x->x.1≠p)) (fun s6=>n - (intOf s6).toNat)
 case atStart=>exact⟨0,rfl,by omega,⟨fun j x hj=>absurd hj (Nat.not_lt_zero _)⟩⟩
 case round=>
  obtain⟨i,rfl,hi,HI⟩:=hrel
  by_cases hlt:i<n
  ·obtain⟨x,hx⟩:∃x,l[i]? =some x:=⟨_,List.getElem?_eq_getElem (by rw[HN.o];exact hlt)⟩
   obtain⟨g,cq,he,_,_,_,_⟩:=HO.o.form (by rw[HN.o];omega)
   injection he with hA _ hC
   subst hA
   obtain⟨d0,d1⟩:=HO.o.Xb hx
   have HX:=Q0 hx
   have hil:(i:Int)<n:=by omega
   clear hx hC
   by_cases hp:x.1=p
   ·have hb:(x.1==p)=true:=by simp[hp]
    have HL:Sc (look l p=some x.2/\has l p=true):=⟨by rw[<-hp];exact⟨Q2f HR.o (List.mem_of_getElem? HX.o),Gd HX.o⟩⟩
    clear hp
    go_wp2
    go_ret2
    exact⟨by rw[HL.o.1,HL.o.2];rfl,rfl⟩
   ·have hb:(x.1==p)=false:=by simp[hp]
    have HJ:Sc (∀j y,j<i+1->l[j]? =some y->y.1≠p):=⟨fun j y hj hy=>by
     rcases Nat.lt_succ_iff_lt_or_eq.1 hj with h|h
     ·exact HI.o j y h hy
     ·subst h;have h1:=HX.o;rw[hy]at h1;injection h1 with h1;subst h1;exact hp⟩
    clear hp
    go_wp2
    go_round
    case rel=>exact⟨i+1,by go_num,by omega,HJ⟩
    case measure=>simp[intOf];omega
  ·obtain rfl:i=n:=by omega
   have HL:Sc (has l p=false):=⟨by
    cases hh:has l p with
    |false=>rfl
    |true=>
     obtain⟨x,hx,hk⟩:=Qy.1 hh
     obtain⟨j,hj⟩:=List.mem_iff_getElem?.1 hx
     exact absurd hk (HI.o j x (by rw[<-HN.o];exact(List.getElem?_eq_some_iff.1 hj).1) hj)⟩
   have HL2:Sc (look l p=none):=⟨by unfold look;rw[if_neg (by rw[HL.o];exact Bool.false_ne_true)]⟩
   go_wp2
   go_ret2
   exact⟨by rw[HL.o,HL2.o];rfl,rfl⟩
theorem X4b(w:World)(tb:Nat)(row:Option Nat)(l:List (Int×Int))(p f:Int)(h:Gm Rd o w tb row l)(hlen:l.length<=1000000):
  Calls Tryz.prog 80 #[.pointer (some ⟨tb,o,none⟩),.int .i64 p,.int .i64 f] w fun e w'=>e=.returned (.tuple #[])/\J5 Rd o tb row (add l (p,f)) w w':=by
 have HTab:=Q0 h
 have HLen:=Q0 hlen
 cases hh:has l p with
 |true=>
  have HH:=Q0 hh
  have HE:Sc (add l (p,f)=l):=⟨Q7n hh⟩
  clear h hh hlen
  go_enter Tryz.func80,Tryz.ntmps80
  go_wp2_with (go_at_call 111;refine(Dj w tb row l p HTab.o HLen.o).mono ?_;rintro e w1 ⟨rfl,rfl⟩;rw[HH.o])
  (try simp only[Exit.inBlock,Exit.then])
  refine bodyPost_ret (results_none rfl _ _ _) rfl ?_
  exact⟨rfl,by rw[HE.o];exact J5.same HTab.o (Below.refl _ _)⟩
 |false=>
  obtain⟨i0,hi,hz0,hz1,hz2⟩:=info_parts Q0a
  obtain⟨⟨v,hv,hc,hown⟩,hap,hr⟩:=h
  have hfz:=hc.Qr o
  have HTL:=Q0 (hc.lt)
  have HR:=Q0 hr
  have HH:=Q0 hh
  have HAR:=Q0 (C3 hr (p,f))
  obtain⟨K,hK⟩:∃K,pos l p=K:=⟨_,rfl⟩
  have hKn:K<=l.length:=by rw[<-hK];exact Q4x l p
  have HK:=Q0 hK
  have HD:Sc (add l (p,f)=(l.take K++[(p,f)])++l.drop K):=⟨by
   unfold add put
   rw[if_neg (by rw[hh];exact Bool.false_ne_true)]
   show l.take (pos l p)++(p,f)::l.drop (pos l p)=_
   rw[hK,List.append_assoc];rfl⟩
  clear hr hh hap hK
  rcases hown.2 with ⟨rfl,h0⟩|⟨g,cap,cur,rfl,hb,hg,hn1,hcm1,hs,ht⟩
  ·obtain rfl:l=[]:=List.eq_nil_of_length_eq_zero h0
   obtain rfl:K=0:=by simpa using hKn
   have hc1:=hc.cell0
   have HC:=Q0 hc
   have HTk:Sc (Own Qj 2 60 0 w (.slice none 0 0) ((([]:List (Int×Int))).take 0)):=⟨Own.nil⟩
   have HT:Sc ((([]:List (Int×Int)).take 0).length=0):=⟨rfl⟩
   have HE:Sc ((([]:List (Int×Int)).drop 0).length=0):=⟨rfl⟩
   clear hc hown h0 hv hKn hlen
   go_enter Tryz.func80,Tryz.ntmps80
   go_wp2_with (go_at_call 111;refine(Dj w tb row [] p HTab.o HLen.o).mono ?_;rintro e w1 ⟨rfl,rfl⟩;rw[HH.o])
   go_loop [8] (fun s8=>s8=.int .i64 0) (fun s8=>(0:Nat))
   case atStart=>rfl
   case round=>
    obtain rfl:=hrel
    go_wp2_with (first|(go_at_call 127;refine(Jg w 0 _ (([]:List (Int×Int)).take 0) HTk.o (by rw[HT.o];omega)).mono ?_;rintro e w2 ⟨v2,rfl,ho,hb2⟩;obtain⟨A2,c2,rfl,_,_⟩:=ho.slice;have HO2:=Q0 ho;have HB2:=Q0 hb2;rw[HT.o]at HO2 ⊢;clear ho hb2)|(at_builtin;refine wpList_append_own_at _ rfl (.tmp 44) (.tmp 48) 32 rfl w.heap.size 60 i0 (.agg #[.int .i64 0,.int .i64 0]) 2 16 Tryz.underlying32 hi hz0 hz1 hz2 rfl (by decide) _ 0 (flat Qj (([]:List (Int×Int)).take 0)) rfl ((HO2.o.rows HT.o).alloc _) _ 1 1 (Qj (p,f)) rfl rfl ?c1 ?c2 ?c3 ?c4 ?c5 ?_))
    case c1=>exact World.news_of_block (heap_alloc_new _ _)
    case c2=>exact Xh.one (p,f)
    case c3=>unfold maxLen;omega
    case c4=>omega
    case c5=>have:=HB2.o.size;simp;omega
    intro v3 w3 h1 h2 h3 h4
    have HO3:Sc (Own Qj 2 60 w.heap.size w3 v3 (([]:List (Int×Int)).take 0++[(p,f)])):=⟨Own.Qv h1 (by rw[List.length_append,HT.o];rfl) (by rw[Qc,Qm];try rfl)⟩
    have HB3:Sc (Below w.heap.size w w3):=⟨(HB2.o.alloc HB2.o.size _).grown h2 (by have:=HB2.o.size;simp;omega) (fun k hk=>(HO2.o.lt k hk).1)⟩
    have hcw3:=HC.o.bel HB3.o
    have hc3:=hcw3.cell0
    obtain⟨A3,c3,rfl,hle3,_⟩:=HO3.o.slice
    have HT3:Sc ((([]:List (Int×Int)).take 0++[(p,f)]).length=0+1):=⟨by rw[List.length_append,HT.o];rfl⟩
    rw[HT3.o]at HO3 hle3 ⊢
    clear h1 h2 h3 h4 hcw3
    have hf3:=(HC.o.bel HB3.o).Qr o
    go_wp2_with (at_builtin;go_loud (refine Lib.wpList_append_run _ rfl (.tmp 51) (.tmp 57) 32 32 rfl _ _ rfl rfl _ _ (Gw _ _ _ _ _ Tryz.underlying32 hi _ _ _ hle3) ?_))
    have H1:Sc (Own Qj 2 60 w.heap.size w3 (.slice A3 (0+1) c3) (add [] (p,f))):=⟨by rw[HD.o];exact HO3.o⟩
    have H2:=HB3
    go_wp2
    go_end0
    refine⟨rfl,?_⟩
    exact J5.stored (HC.o.bel H2.o) (H1.o.mono (Nat.zero_le _)) HAR.o HTL.o (Kp.Qi H2.o _) (fun q hq=>(H1.o.lt q hq).1)
  ·obtain⟨n,hn⟩:∃n,l.length=n:=⟨_,rfl⟩
   rw[hn]at hown hlen hc hKn hn1
   have hc1:=hc.cell0
   have HC:=Q0 hc
   have HN:=Q0 hn
   have HO:=Q0 hown
   have HTk:=Q0 (hown.take Xh hKn)
   have HT:Sc ((l.take K).length=K):=⟨by rw[List.length_take,hn];omega⟩
   have HE:Sc ((l.drop K).length=n - K):=⟨by rw[List.length_drop,hn]⟩
   have HTl0:Sc (∀j u,(flat Qj (l.drop K))[j]? =some u->w.cell? ((⟨g,K*2,none⟩:Addr).add j)=some u):=⟨hown.tail Xh K⟩
   have n6:(n:Int)<=cap:=by omega
   have n7:(K:Int)<=cap:=by omega
   have n8:(K:Int)<=n:=by omega
   have n9:K<=cap:=by omega
   clear hown hc hv hn hs ht hb hg hcm1
   go_enter Tryz.func80,Tryz.ntmps80
   go_wp2_with (go_at_call 111;refine(Dj w tb row l p HTab.o HLen.o).mono ?_;rintro e w1 ⟨rfl,rfl⟩;rw[HH.o])
   go_loop [8] (fun s8=>∃j:Nat,s8=.int .i64 j/\j<=K) (fun s8=>K - (intOf s8).toNat)
   case atStart=>exact⟨0,rfl,by omega⟩
   case round=>
    obtain⟨j,rfl,hj⟩:=hrel
    by_cases hlt:j<K
    ·obtain⟨x,hx⟩:∃x,l[j]? =some x:=⟨_,List.getElem?_eq_getElem (by rw[HN.o];omega)⟩
     obtain⟨d0,d1⟩:=HO.o.Xb hx
     have hp:x.1<p:=(J0 HR.o p hx).1 (by rw[HK.o];exact hlt)
     have hjn:(j:Int)<n:=by omega
     clear hx
     go_wp2
     go_round
     case rel=>exact⟨j+1,by go_num,by omega⟩
     case measure=>simp[intOf];omega
    ·obtain rfl:j=K:=by omega
     by_cases hlt2:j<n
     ·obtain⟨x,hx⟩:∃x,l[j]? =some x:=⟨_,List.getElem?_eq_getElem (by rw[HN.o];omega)⟩
      obtain⟨d0,d1⟩:=HO.o.Xb hx
      have hp:¬x.1<p:=fun h=>by have:=(J0 HR.o p hx).2 h;have:=HK.o;omega
      have hjn:(j:Int)<n:=by omega
      have hcap:¬cap=j:=by omega
      clear hx
      go_wp2_with (first|(go_at_call 127;refine(Jg w 0 _ (l.take j) HTk.o (by rw[HT.o];omega)).mono ?_;rintro e w2 ⟨v2,rfl,ho,hb2⟩;obtain⟨A2,c2,rfl,_,_⟩:=ho.slice;have HO2:=Q0 ho;have HB2:=Q0 hb2;rw[HT.o]at HO2 ⊢;clear ho hb2)|(at_builtin;refine wpList_append_own_at _ rfl (.tmp 44) (.tmp 48) 32 rfl w.heap.size 60 i0 (.agg #[.int .i64 0,.int .i64 0]) 2 16 Tryz.underlying32 hi hz0 hz1 hz2 rfl (by decide) _ j (flat Qj (l.take j)) rfl ((HO2.o.rows HT.o).alloc _) _ 1 1 (Qj (p,f)) rfl rfl ?c1 ?c2 ?c3 ?c4 ?c5 ?_))
      case c1=>exact World.news_of_block (heap_alloc_new _ _)
      case c2=>exact Xh.one (p,f)
      case c3=>unfold maxLen;omega
      case c4=>omega
      case c5=>have:=HB2.o.size;simp;omega
      intro v3 w3 h1 h2 h3 h4
      have HO3:Sc (Own Qj 2 60 w.heap.size w3 v3 (l.take j++[(p,f)])):=⟨Own.Qv h1 (by rw[List.length_append,HT.o];rfl) (by rw[Qc,Qm];try rfl)⟩
      have HB3:Sc (Below w.heap.size w w3):=⟨(HB2.o.alloc HB2.o.size _).grown h2 (by have:=HB2.o.size;simp;omega) (fun k hk=>(HO2.o.lt k hk).1)⟩
      have hcw3:=HC.o.bel HB3.o
      have hc3:=hcw3.cell0
      obtain⟨A3,c3,rfl,hle3,_⟩:=HO3.o.slice
      have HT3:Sc ((l.take j++[(p,f)]).length=j+1):=⟨by rw[List.length_append,HT.o];rfl⟩
      rw[HT3.o]at HO3 hle3 ⊢
      clear h1 h2 h3 h4 hcw3
      go_wp2_with (at_builtin;go_loud (refine wpList_append_own_at _ rfl (.tmp 51) (.tmp 57) 32 rfl w.heap.size 60 i0 (.agg #[.int .i64 0,.int .i64 0]) 2 16 Tryz.underlying32 hi hz0 hz1 hz2 rfl (by decide) _ (j+1) (flat Qj (l.take j++[(p,f)])) rfl (HO3.o.rows HT3.o) ⟨g,j*2,none⟩ (n - j) (cap - j) (flat Qj (l.drop j)) rfl ?c1 (Xo HB3.o HTl0.o) (Xh.Xk _) ?c3 ?c4 ?c5 ?_))
      case c1=>rw[Xh.Qp,HE.o]<;>omega
      case c3=>unfold maxLen;omega
      case c4=>omega
      case c5=>exact HB3.o.size
      intro v4 w4 h1 h2 h3 h4
      have H1:Sc (Own Qj 2 60 w.heap.size w4 v4 (add l (p,f))):=⟨Own.Qv h1 (by rw[HD.o,List.length_append,HT3.o,HE.o]<;>omega) (by rw[HD.o];simp only[Qc])⟩
      have H2:Sc (Below w.heap.size w w4):=⟨HB3.o.grown h2 HB3.o.size (fun k hk=>(HO3.o.lt k hk).1)⟩
      have hcw4:=HC.o.bel H2.o
      have hc4:=hcw4.cell0
      have hf4:=hcw4.Qr o
      have HC4:=Q0 hcw4
      obtain⟨A4,n4,c4,rfl⟩:=H1.o.slice3
      clear h1 h2 h3 h4 hcw4
      go_wp2
      go_end0
      refine⟨rfl,?_⟩
      exact J5.stored HC4.o (H1.o.mono (Nat.zero_le _)) HAR.o HTL.o (Kp.Qi H2.o _) (fun q hq=>(H1.o.lt q hq).1)
     ·obtain rfl:j=n:=by omega
      have hz:l.drop j=[]:=List.drop_eq_nil_of_le (by rw[HN.o];exact Nat.le_refl _)
      by_cases hcap:cap=j
      ·subst hcap
       have HTl:Sc (∀t u,(flat Qj (l.drop cap))[t]? =some u->w.cell? ((⟨g,0,none⟩:Addr).add t)=some u):=⟨fun t u ht=>by rw[hz]at ht;cases ht⟩
       clear hz HTl0
       go_wp2_with (first|(go_at_call 127;refine(Jg w 0 _ (l.take cap) HTk.o (by rw[HT.o];omega)).mono ?_;rintro e w2 ⟨v2,rfl,ho,hb2⟩;obtain⟨A2,c2,rfl,_,_⟩:=ho.slice;have HO2:=Q0 ho;have HB2:=Q0 hb2;rw[HT.o]at HO2 ⊢;clear ho hb2)|(at_builtin;refine wpList_append_own_at _ rfl (.tmp 44) (.tmp 48) 32 rfl w.heap.size 60 i0 (.agg #[.int .i64 0,.int .i64 0]) 2 16 Tryz.underlying32 hi hz0 hz1 hz2 rfl (by decide) _ cap (flat Qj (l.take cap)) rfl ((HO2.o.rows HT.o).alloc _) _ 1 1 (Qj (p,f)) rfl rfl ?c1 ?c2 ?c3 ?c4 ?c5 ?_))
       case c1=>exact World.news_of_block (heap_alloc_new _ _)
       case c2=>exact Xh.one (p,f)
       case c3=>unfold maxLen;omega
       case c4=>omega
       case c5=>have:=HB2.o.size;simp;omega
       intro v3 w3 h1 h2 h3 h4
       have HO3:Sc (Own Qj 2 60 w.heap.size w3 v3 (l.take cap++[(p,f)])):=⟨Own.Qv h1 (by rw[List.length_append,HT.o];rfl) (by rw[Qc,Qm];try rfl)⟩
       have HB3:Sc (Below w.heap.size w w3):=⟨(HB2.o.alloc HB2.o.size _).grown h2 (by have:=HB2.o.size;simp;omega) (fun k hk=>(HO2.o.lt k hk).1)⟩
       have hcw3:=HC.o.bel HB3.o
       have hc3:=hcw3.cell0
       obtain⟨A3,c3,rfl,hle3,_⟩:=HO3.o.slice
       have HT3:Sc ((l.take cap++[(p,f)]).length=cap+1):=⟨by rw[List.length_append,HT.o];rfl⟩
       rw[HT3.o]at HO3 hle3 ⊢
       clear h1 h2 h3 h4 hcw3
       go_wp2_with (at_builtin;go_loud (refine wpList_append_own_at _ rfl (.tmp 51) (.tmp 57) 32 rfl w.heap.size 60 i0 (.agg #[.int .i64 0,.int .i64 0]) 2 16 Tryz.underlying32 hi hz0 hz1 hz2 rfl (by decide) _ (cap+1) (flat Qj (l.take cap++[(p,f)])) rfl (HO3.o.rows HT3.o) ⟨g,0,none⟩ 0 0 (flat Qj (l.drop cap)) rfl ?c1 (Xo HB3.o HTl.o) (Xh.Xk _) ?c3 ?c4 ?c5 ?_))
       case c1=>rw[Xh.Qp,HE.o]<;>omega
       case c3=>unfold maxLen;omega
       case c4=>omega
       case c5=>exact HB3.o.size
       intro v4 w4 h1 h2 h3 h4
       have H1:Sc (Own Qj 2 60 w.heap.size w4 v4 (add l (p,f))):=⟨Own.Qv h1 (by rw[HD.o,List.length_append,HT3.o,HE.o]<;>omega) (by rw[HD.o];simp only[Qc])⟩
       have H2:Sc (Below w.heap.size w w4):=⟨HB3.o.grown h2 HB3.o.size (fun k hk=>(HO3.o.lt k hk).1)⟩
       have hcw4:=HC.o.bel H2.o
       have hc4:=hcw4.cell0
       have hf4:=hcw4.Qr o
       have HC4:=Q0 hcw4
       obtain⟨A4,n4,c4,rfl⟩:=H1.o.slice3
       clear h1 h2 h3 h4 hcw4
       go_wp2
       go_end0
       refine⟨rfl,?_⟩
       exact J5.stored HC4.o (H1.o.mono (Nat.zero_le _)) HAR.o HTL.o (Kp.Qi H2.o _) (fun q hq=>(H1.o.lt q hq).1)
      ·have HTl:Sc (∀t u,(flat Qj (l.drop j))[t]? =some u->w.cell? ((⟨g,j*2,none⟩:Addr).add t)=some u):=⟨fun t u ht=>by rw[hz]at ht;cases ht⟩
       clear hz
       go_wp2_with (first|(go_at_call 127;refine(Jg w 0 _ (l.take j) HTk.o (by rw[HT.o];omega)).mono ?_;rintro e w2 ⟨v2,rfl,ho,hb2⟩;obtain⟨A2,c2,rfl,_,_⟩:=ho.slice;have HO2:=Q0 ho;have HB2:=Q0 hb2;rw[HT.o]at HO2 ⊢;clear ho hb2)|(at_builtin;refine wpList_append_own_at _ rfl (.tmp 44) (.tmp 48) 32 rfl w.heap.size 60 i0 (.agg #[.int .i64 0,.int .i64 0]) 2 16 Tryz.underlying32 hi hz0 hz1 hz2 rfl (by decide) _ j (flat Qj (l.take j)) rfl ((HO2.o.rows HT.o).alloc _) _ 1 1 (Qj (p,f)) rfl rfl ?c1 ?c2 ?c3 ?c4 ?c5 ?_))
       case c1=>exact World.news_of_block (heap_alloc_new _ _)
       case c2=>exact Xh.one (p,f)
       case c3=>unfold maxLen;omega
       case c4=>omega
       case c5=>have:=HB2.o.size;simp;omega
       intro v3 w3 h1 h2 h3 h4
       have HO3:Sc (Own Qj 2 60 w.heap.size w3 v3 (l.take j++[(p,f)])):=⟨Own.Qv h1 (by rw[List.length_append,HT.o];rfl) (by rw[Qc,Qm];try rfl)⟩
       have HB3:Sc (Below w.heap.size w w3):=⟨(HB2.o.alloc HB2.o.size _).grown h2 (by have:=HB2.o.size;simp;omega) (fun k hk=>(HO2.o.lt k hk).1)⟩
       have hcw3:=HC.o.bel HB3.o
       have hc3:=hcw3.cell0
       obtain⟨A3,c3,rfl,hle3,_⟩:=HO3.o.slice
       have HT3:Sc ((l.take j++[(p,f)]).length=j+1):=⟨by rw[List.length_append,HT.o];rfl⟩
       rw[HT3.o]at HO3 hle3 ⊢
       clear h1 h2 h3 h4 hcw3
       go_wp2_with (at_builtin;go_loud (refine wpList_append_own_at _ rfl (.tmp 51) (.tmp 57) 32 rfl w.heap.size 60 i0 (.agg #[.int .i64 0,.int .i64 0]) 2 16 Tryz.underlying32 hi hz0 hz1 hz2 rfl (by decide) _ (j+1) (flat Qj (l.take j++[(p,f)])) rfl (HO3.o.rows HT3.o) ⟨g,j*2,none⟩ 0 (cap - j) (flat Qj (l.drop j)) rfl ?c1 (Xo HB3.o HTl.o) (Xh.Xk _) ?c3 ?c4 ?c5 ?_))
       case c1=>rw[Xh.Qp,HE.o]<;>omega
       case c3=>unfold maxLen;omega
       case c4=>omega
       case c5=>exact HB3.o.size
       intro v4 w4 h1 h2 h3 h4
       have H1:Sc (Own Qj 2 60 w.heap.size w4 v4 (add l (p,f))):=⟨Own.Qv h1 (by rw[HD.o,List.length_append,HT3.o,HE.o]<;>omega) (by rw[HD.o];simp only[Qc])⟩
       have H2:Sc (Below w.heap.size w w4):=⟨HB3.o.grown h2 HB3.o.size (fun k hk=>(HO3.o.lt k hk).1)⟩
       have hcw4:=HC.o.bel H2.o
       have hc4:=hcw4.cell0
       have hf4:=hcw4.Qr o
       have HC4:=Q0 hcw4
       obtain⟨A4,n4,c4,rfl⟩:=H1.o.slice3
       clear h1 h2 h3 h4 hcw4
       go_wp2
       go_end0
       refine⟨rfl,?_⟩
       exact J5.stored HC4.o (H1.o.mono (Nat.zero_le _)) HAR.o HTL.o (Kp.Qi H2.o _) (fun q hq=>(H1.o.lt q hq).1)
end
structure Q9 where
 kind:Int
 txn:Int
 page:Int
 prev:Int
 next:Int
 key:Int
 had:Bool
 has:Bool
 old:Int
 new:Int
abbrev Xq(r:Q9):List Value:=[.int .i64 r.kind,.int .i64 r.txn,.int .i64 r.page,.int .i64 r.prev,.int .i64 r.next,.int .i64 r.key,.bool r.had,.bool r.has,.int .i64 r.old,.int .i64 r.new]
theorem Z4:Kind Xq 10:=⟨fun _=>rfl,fun x u hu=>by simp[Xq]at hu;rcases hu with rfl|rfl|rfl|rfl|rfl|rfl|rfl|rfl|rfl|rfl<;>rfl,by omega⟩
abbrev Qe(r:Q9):Array Value:= #[.int .i64 r.kind,.int .i64 r.txn,.int .i64 r.page,.int .i64 r.prev,.int .i64 r.next,.int .i64 r.key,.bool r.had,.bool r.has,.int .i64 r.old,.int .i64 r.new]
abbrev Yg(r:Q9):Value:=.agg (Qe r)
abbrev Z9:Q9:=⟨0,0,0,0,0,0,false,false,0,0⟩
theorem Qb{w:World}{b:Nat}{r:Q9}{t:TypeId}(h:w.heap[b]? =some (.cells (Qe r) t (0,0))):
  w.cell? ⟨b,0,none⟩=some (.int .i64 r.kind)/\w.cell? ⟨b,1,none⟩=some (.int .i64 r.txn)/\w.cell? ⟨b,2,none⟩=some (.int .i64 r.page)/\w.cell? ⟨b,3,none⟩=some (.int .i64 r.prev)/\w.cell? ⟨b,4,none⟩=some (.int .i64 r.next)/\
  w.cell? ⟨b,5,none⟩=some (.int .i64 r.key)/\w.cell? ⟨b,6,none⟩=some (.bool r.had)/\w.cell? ⟨b,7,none⟩=some (.bool r.has)/\w.cell? ⟨b,8,none⟩=some (.int .i64 r.old)/\w.cell? ⟨b,9,none⟩=some (.int .i64 r.new):=by simp[World.cell?,h]
theorem Own.Qe{w:World}{e:TypeId}{base g n cap:Nat}{l:List Q9}(h:Own Xq 10 e base w (.slice (some ⟨g,0,none⟩) n cap) l){k:Nat}{r:Q9}(hx:l[k]? =some r):
  w.cell? ⟨g,k*10,none⟩=some (.int .i64 r.kind)/\w.cell? ⟨g,k*10+1,none⟩=some (.int .i64 r.txn)/\w.cell? ⟨g,k*10+2,none⟩=some (.int .i64 r.page)/\w.cell? ⟨g,k*10+3,none⟩=some (.int .i64 r.prev)/\w.cell? ⟨g,k*10+4,none⟩=some (.int .i64 r.next)/\
  w.cell? ⟨g,k*10+5,none⟩=some (.int .i64 r.key)/\w.cell? ⟨g,k*10+6,none⟩=some (.bool r.had)/\w.cell? ⟨g,k*10+7,none⟩=some (.bool r.has)/\w.cell? ⟨g,k*10+8,none⟩=some (.int .i64 r.old)/\w.cell? ⟨g,k*10+9,none⟩=some (.int .i64 r.new):=
 ⟨h.cell Z4 hx 0 _ rfl,h.cell Z4 hx 1 _ rfl,h.cell Z4 hx 2 _ rfl,h.cell Z4 hx 3 _ rfl,h.cell Z4 hx 4 _ rfl,h.cell Z4 hx 5 _ rfl,h.cell Z4 hx 6 _ rfl,h.cell Z4 hx 7 _ rfl,h.cell Z4 hx 8 _ rfl,h.cell Z4 hx 9 _ rfl⟩
def inR(n lo hi:Int):Bool:=decide (lo<=n)&&decide (n<=hi)
def Z7(r:Q9):Bool:=if r.kind=1\/r.kind=7\/r.kind=10 then decide (r.prev=0) else if r.kind=9 then inR r.prev 1 1073741824 else inR r.prev 0 1073741824
def Z6(r:Q9):Bool:=if r.kind=3\/r.kind=8 then inR r.next 0 1073741824 else if r.kind=10 then inR r.next 0 60000 else decide (r.next=0)
def Va(r:Q9):Bool:=if r.kind=2\/r.kind=3 then inR r.key 0 1048575 else if r.kind=8 then inR r.key 0 2 else decide (r.key=0)
def Qk(r:Q9):Bool:=
 if(r.has=false/\r.new≠0)\/(r.had=false/\r.old≠0) then false else if r.kind=2 then r.had||r.has else if r.kind=3 then r.had&&(decide (1<=r.old)&&decide (r.old<=1073741824)) else !r.had&& !r.has
def Yv(r:Q9):Int:=if(1<=r.kind/\r.kind<=6)\/r.kind=8 then 60000 else 0
def Xi(r:Q9):Int:=if r.kind=2\/r.kind=3\/r.kind=9 then 32 else 0
def Qq(r:Q9):Bool:=inR r.kind 1 10&&inR r.txn (min (Yv r) 1) (Yv r)&&inR r.page (min (Xi r) 1) (Xi r)&&Z7 r&&Z6 r&&Va r&&Qk r
structure An where
 t:List TX
 m:Int
 d:List (Int×Int)
 ins:Bool
abbrev An.zero(i:Bool):An:=⟨[],0,[],i⟩
def J2(base lsn:Int)(r:Q9)(s:An):Bool×An:=
 if r.kind=8 then(decide (r.prev<lsn)&&decide (r.next<lsn),{s with t:=Qt s.t (r.txn,r.key,r.prev,r.next),m:=max s.m r.txn})
 else if r.kind=9 then(decide (base<r.prev)&&decide (r.prev<lsn),{s with d:=add s.d (r.page,r.prev)})
 else if r.kind=10 then(true,{s with m:=max s.m r.next,ins:=false})
 else(false,s)
def Yt(lsn:Int)(r:Q9)(x:TX):TX:=
 (x.1,if r.kind=4 then 1 else if r.kind=5 then 2 else x.2.1,lsn,if r.kind=2 then lsn else if r.kind=3 then r.next else x.2.2.2)
def Yu(lsn:Int)(r:Q9)(s:An):Bool×An:=
 if r.kind=1 then(!has s.t r.txn,{s with t:=Qt s.t (r.txn,0,lsn,0),m:=max s.m r.txn})
 else if has s.t r.txn=false\/r.prev≠(got s.t r.txn).2.2.1 then(false,s)
 else if r.kind=6 then(true,{s with t:=X4 s.t r.txn})
 else(if r.kind=3 then decide ((got s.t r.txn).2.1≠1)&&decide (r.next<lsn) else decide ((got s.t r.txn).2.1=0),
  {s with t:=Qt s.t (Yt lsn r (got s.t r.txn)),m:=max s.m (got s.t r.txn).1,d:=if r.kind=2\/r.kind=3 then add s.d (r.page,lsn) else s.d})
def Xc(base lsn:Int)(r:Q9)(s:An):Bool×An:=
 if s.ins=true then J2 base lsn r s else if 7<=r.kind then(true,s) else Yu lsn r s
def Xz(base:Int):Int->List Q9->An->Option Int×An
 |_,[],s=>(none,s)
 |lsn,r::rs,s=>if(Xc base lsn r s).1=true then Xz base (lsn+1) rs (Xc base lsn r s).2 else(some lsn,(Xc base lsn r s).2)
def Xu(pages:Int):Int->List Q9->Option Int
 |_,[]=>none
 |lsn,r::rs=>if(r.kind=2\/r.kind=3\/r.kind=9)/\pages<r.page then some lsn else Xu pages (lsn+1) rs
def Y7(last:Int)(x:Option Int×An):Option Int×An:=
 match x.1 with
 |some p=>(some p,An.zero false)
 |none=>if x.2.ins=true then(some (last+1),An.zero false) else(none,x.2)
def Qx(L:List Q9)(base lsn:Int):Option Q9:=if base<lsn/\lsn<=base+L.length then L[(lsn - base - 1).toNat]? else none
def Zc(L:List Q9)(base pages Xe:Int):Option Int×An:=
 match Xu pages (base+1) L with
 |some p=>(some p,An.zero false)
 |none=>
  if Xe=0 then Y7 (base+L.length) (Xz base (base+1) L (An.zero false))
  else match Qx L base Xe with
   |some r=>if r.kind=7 then Y7 (base+L.length) (Xz base (Xe+1) (L.drop (Xe - base).toNat) (An.zero true)) else(some Xe,An.zero false)
   |none=>(some Xe,An.zero false)
section
structure Y2(w:World) where
 world:World
 below:Below w.heap.size w world
namespace Y2
variable{w:World}
instance:Nonempty (Y2 w):=⟨⟨w,Below.refl _ _⟩⟩
theorem cell(x:Y2 w){a:Addr}{v:Value}(h:w.cell? a=some v):x.world.cell? a=some v:=by
 have hb:=x.below.block a.block (World.block_lt_of_cell? w _ h)
 unfold World.cell? at h ⊢
 rw[hb]
 exact h
theorem call(x:Y2 w){P:Program}{f:FuncId}{args:Array Value}{v:Value}
  (h:Calls P f args x.world fun e w'=>e=.returned v/\Below x.world.heap.size x.world w'):Calls P f args x.world fun e w'=>e=.returned v/\∃y:Y2 w,w'=y.world:=
 h.mono fun _ w' ⟨he,hb⟩=>⟨he,⟨w',x.below.trans (hb.mono x.below.size)⟩,rfl⟩
theorem Q1a(x:Y2 w){P:Program}{f:FuncId}{args:Array Value}{v:Value}
  (h:Calls P f args x.world fun e w'=>e=.returned v/\w'=x.world):Calls P f args x.world fun e w'=>e=.returned v/\∃y:Y2 w,w'=y.world:=
 h.mono fun _ _ ⟨he,hb⟩=>⟨he,x,hb⟩
theorem Ju{w':World}(h:∃x:Y2 w,w'=x.world):Below w.heap.size w w':=by
 obtain⟨x,rfl⟩:=h
 exact x.below
end Y2
theorem Xn{P:Program}{id:Nat}{Q:Exit->Act->World->Prop}{a:Act}{w:World}{l:List Oper}(hm:P.follows .mixedOrders=true)(hB:Region.lexB .any l.toArray=true)
  (h:wpQuiet P l.toArray (fun w'=>∃x:Y2 w,w'=x.world) (fun a'=>∀w',(∃x:Y2 w,w'=x.world)->Q .normal a' w') l a):(Code.region id l.toArray true).wp P Q a w:=
 wp_region_quiet (C:=fun w'=>∃x:Y2 w,w'=x.world) hm hB ⟨⟨{w with drawn:=w.drawn+1},⟨rfl,rfl,rfl,Nat.le_refl _,fun _ _=>rfl⟩⟩,rfl⟩ (by simpa using h)
end
section
set_option maxHeartbeats 1000000
set_option maxRecDepth 4000
theorem Ep:(Tryz.prog.info? 49).map (fun i=>(i.zero,i.size,i.bytes))=some (some (.agg #[.int .i64 0,.int .i64 0,.int .i64 0,.int .i64 0,.int .i64 0,.int .i64 0,.bool false,.bool false,.int .i64 0,.int .i64 0]),10,72):=by kernel_rfl
theorem X0{B:Nat}{w W:World}(h:Below B w W)(n:Nat):Below B w (W.drewN n):=⟨h.os,h.tape,h.output,h.size,h.block⟩
structure Vu(W:World)(lb:Nat)(row:Option Nat)(L:List Q9)(bs:Int):Prop where
 val:∃(dp A:Option Addr) (s c:Nat),(Value.slice A s c).ownBlock=row/\W.heap[lb]? =some (.cells #[.pointer dp,.int .i64 1,.int .i64 29,.int .i64 bs,.int .i64 1,.slice A s c,.int .i64 0] 160 (0,0))/\Own Xq 10 49 0 W (.slice A s c) L
 apart:row≠some lb
theorem Ga{w:World}{b:Nat}{a1 a2 a3 a4 a5 a6 a7:Value}{t:TypeId}(h:w.heap[b]? =some (.cells #[a1,a2,a3,a4,a5,a6,a7] t (0,0))):w.cell? ⟨b,2,none⟩=some a3/\w.cell? ⟨b,3,none⟩=some a4/\w.cell? ⟨b,5,none⟩=some a6:=by simp[World.cell?,h]
theorem Vu.kp{W W':World}{lb:Nat}{row:Option Nat}{L:List Q9}{bs:Int}{S:Nat->Prop}(h:Vu W lb row L bs)(k:Kp S W W')(h1:¬S lb)(h2:∀q,row=some q->¬S q):Vu W' lb row L bs:=by
 obtain⟨⟨dp,A,s,c,hv,hc,hown⟩,hap⟩:=h
 exact⟨⟨dp,A,s,c,hv,k.at hc h1,hown.kp k (fun q hq=>h2 q (by rw[<-hv];exact hq))⟩,hap⟩
theorem Vu.bel{W W':World}{lb:Nat}{row:Option Nat}{L:List Q9}{bs:Int}(h:Vu W lb row L bs)(hb:Below W.heap.size W W'):Vu W' lb row L bs:=h.kp (Kp.Qi hb (fun _=>False)) id (fun _ _=>id)
theorem Vu.lt{W:World}{lb:Nat}{row:Option Nat}{L:List Q9}{bs:Int}(h:Vu W lb row L bs):lb<W.heap.size:=by
 obtain⟨⟨_,_,_,_,_,hc,_⟩,_⟩:=h
 exact Q6 hc
theorem Vu.Gt{W:World}{lb:Nat}{row:Option Nat}{L:List Q9}{bs:Int}(h:Vu W lb row L bs):∀q,row=some q->q<W.heap.size:=by
 obtain⟨⟨_,_,_,_,hv,_,ho⟩,_⟩:=h
 exact fun q hq=>(ho.lt q (by rw[hv];exact hq)).2
theorem D5(w:World)(lb:Nat)(row:Option Nat)(L:List Q9)(bs:Int)(h:Vu w lb row L bs):
  Calls Tryz.prog 28 #[.pointer (some ⟨lb,0,none⟩)] w fun e w'=>e=.returned (.int .i64 bs)/\w'=w:=by
 obtain⟨⟨dp,A,s,c,hv,hc,hown⟩,hap⟩:=h
 obtain⟨c2,c3,c5⟩:=Ga hc
 clear hv hc hown hap
 go_enter Tryz.func28,Tryz.ntmps28
 go_wp2
 go_ret
 exact⟨rfl,rfl⟩
theorem Jx(w:World)(lb:Nat)(row:Option Nat)(L:List Q9)(bs:Int)(h:Vu w lb row L bs)(hlen:L.length<=1000000)(h0:0<=bs)(h1:bs<=1000000):
  Calls Tryz.prog 29 #[.pointer (some ⟨lb,0,none⟩)] w fun e w'=>e=.returned (.int .i64 (bs+L.length))/\Below w.heap.size w w':=by
 obtain⟨⟨dp,A,s,c,hv,hc,hown⟩,hap⟩:=h
 obtain⟨c2,c3,c5⟩:=Ga hc
 have hs:=hown.len
 have HS:Sc ((L.length:Int)=s):=⟨by omega⟩
 have hw:IntKind.i64.wrap (bs+(s:Int))=bs+s:=IntWalk.i64_in _ ⟨by omega,by omega⟩
 clear hv hc hown hap hs
 go_enter Tryz.func29,Tryz.ntmps29
 go_upto_region 1 with fail
 go_quiet (fail)
 go_wp2
 go_ret
 exact⟨by rw[HS.o];rfl,X0 (Below.refl _ _) _⟩
theorem X3z(w:World)(lb:Nat)(row:Option Nat)(L:List Q9)(bs:Int)(h:Vu w lb row L bs)(hlen:L.length<=173)(h0:0<=bs)(h1:bs<=1000000):
  Calls Tryz.prog 72 #[.pointer (some ⟨lb,0,none⟩)] w fun e w'=>e=.returned (.int .i64 (174 - L.length))/\Below w.heap.size w w':=by
 have HL:=Q0 h
 obtain⟨⟨dp,A,s,c,hv,hc,hown⟩,hap⟩:=h
 obtain⟨d2,d3,d5⟩:=Ga hc
 have c2:∀X:Y2 w,X.world.cell? ⟨lb,2,none⟩=some (.int .i64 29):=fun X=>X.cell d2
 have c5:∀X:Y2 w,X.world.cell? ⟨lb,5,none⟩=some (.slice A s c):=fun X=>X.cell d5
 have hs:=hown.len
 have HS:Sc ((L.length:Int)=s):=⟨by omega⟩
 have hs3:s<=173:=by omega
 obtain⟨z,hz⟩:∃z,bs+(L.length:Int)=z:=⟨_,rfl⟩
 have HZ:=Q0 hz
 have hz0:0<=z:=by omega
 have hz1:z<=2000000:=by omega
 have CL:∀X:Y2 w,Calls Tryz.prog 29 #[.pointer (some ⟨lb,0,none⟩)] X.world fun e w'=>e=.returned (.int .i64 z)/\Below X.world.heap.size X.world w':=fun X=>by
  have h:=Jx X.world lb row L bs (HL.o.bel X.below) (by omega) h0 h1
  rw[HZ.o]at h
  exact h
 have hw1:IntKind.i64.wrap (174 - (s:Int))=174 - s:=IntWalk.i64_in _ ⟨by omega,by omega⟩
 have hw2:IntKind.i64.wrap (1073741824 - z)=1073741824 - z:=IntWalk.i64_in _ ⟨by omega,by omega⟩
 clear hv hc hown hap hs d2 d3 d5 hz
 go_enter Tryz.func72,Tryz.ntmps72
 go_wp2_with fail
 refine Xn (by kernel_rfl) (by kernel_rfl) ?_
 repeat (go_big_quiet_step ((go_at_call 29;exact Y2.call _ (CL _))))
 refine wpQuiet_nil ?_
 intro wq hw'
 have HBQ:=Q0 (Y2.Ju hw')
 clear hw'
 go_wp2
 go_ret
 exact⟨by rw[HS.o];rfl,HBQ.o⟩
end
section
open Go.RowKit Go.ChangeShapes
def gsL:List Nat:=[3,2,4,5,6,7,8,1,0,9,10,11,12,13,14,15,16,17]
def gsT:List (List UInt8):=[[116,104,101,114,101,32,105,115,32,110,111,32,112,111,119,101,114],[97,32,110,117,109,98,101,114,32,111,117,116,32,111,102,32,105,116,115,32,114,97,110,103,101],[98,121,116,101,115,32,111,102,32,97,110,111,116,104,101,114,32,108,101,110,103,116,104],[110,111,116,32,97,32,114,101,99,111,114,100],[110,111,116,32,97,32,98,108,111,99,107],[110,111,116,32,97,32,109,97,115,116,101,114],[110,111,116,32,97,32,112,97,103,101],[97,32,108,111,103,32,116,104,97,116,32,99,97,110,39,116,32,98,101],[116,104,101,32,108,111,103,32,105,115,32,102,117,108,108],[116,104,101,32,112,97,103,101,32,105,115,32,102,117,108,108],[97,110,111,116,104,101,114,32,111,110,101,32,104,111,108,100,115,32,105,116],[101,97,99,104,32,119,97,105,116,115,32,102,111,114,32,97,110,111,116,104,101,114,32,111,110,101],[110,111,32,116,114,97,110,115,97,99,116,105,111,110],[97,32,116,114,97,110,115,97,99,116,105,111,110,32,97,108,114,101,97,100,121],[110,111,32,115,117,99,104,32,115,97,118,101,112,111,105,110,116],[116,114,97,110,115,97,99,116,105,111,110,115,32,97,114,101,32,111,112,101,110],[109,111,114,101,32,116,104,97,110,32,109,97,121,32,98,101],[99,108,111,115,101,100]]
structure V1(W:World)(f:Nat->Addr):Prop where
 cell:∀i,i<18->W.cell? ⟨gsL.getD i 0,0,none⟩=some (.iface 266 (.pointer (some (f i))))
 inj:∀i,i<18->∀j,j<18->f i=f j->i=j
 blk:∀i,i<18->∃c t,W.heap[(f i).block]? =some (.cells c t (0,0))
theorem V1.bel{W W':World}{f:Nat->Addr}(h:V1 W f)(hb:Below W.heap.size W W'):V1 W' f:=
 ⟨fun i hi=>(hb.cell (World.block_lt_of_cell? _ _ (h.cell i hi))).trans (h.cell i hi),h.inj,fun i hi=>by
  obtain⟨c,t,hc⟩:=h.blk i hi
  exact⟨c,t,(hb.block _ (Array.getElem?_eq_some_iff.1 hc).1).trans hc⟩⟩
theorem X3{P:Program}{n nm:String}{text:List UInt8}{r:List (String×DataW Unit)}{W:World}{g:Nat}{ti tp te ts:TypeId}{ms:Array (String×TypeId)}{f:Field}
  (h:laidMet P ((n,.iface nm (.ptr (.agg [.lit (.string text)])))::r) W)
  (hg:P.globalNamed n=some g) (ht:(P.globals[g]?).map (·.type)=some ti) (hi:P.underlying ti=some (.interface ms)) (hrow:∀u,P.typeName? 3 u=some nm->u=tp)
  (hp:P.underlying tp=some (.pointer te)) (he:P.underlying te=some (.struct #[f])) (hft:f.type=ts) (hfo:f.offset=0) (hs:P.underlying ts=some .string) (hc:P.cellsOf te=1) (hcs:P.cellsOf ts=1):
  ∃(a:Addr) (s:ByteArray),W.cell? ⟨g,0,none⟩=some (.iface tp (.pointer (some a)))/\W.cell? a=some (.string s)/\s.data.toList=text/\∃c t,W.heap[a.block]? =some (.cells c t (0,0)):=by
 obtain⟨ps,⟨g0,t0,cs0,f0,p0,q0,hg0,ht0,hv0,hd0,_,e0⟩,_,hrows⟩:=h
 obtain rfl:=Option.some.inj (hg.symm.trans hg0)
 obtain rfl:=Option.some.inj (ht.symm.trans ht0)
 subst e0
 obtain⟨l0⟩:=cs0
 have ok0:∀u v,l0=[.iface u v]->Value.okWide P W .any 0 u v:=fun u v e=>by
  subst e
  exact(hrows g 0 (by simp[MemPlace.row])).2 u v (by simpa using World.var?_cell hg0 hv0 0)
 obtain⟨a0,s0,rfl,hc0,hs0,_,rfl⟩:=errorString_of_trod hi hrow hp he hft hfo hs hc hcs hd0 ok0
 exact⟨a0,s0,World.var?_cell hg0 hv0 0,hc0,hs0,(hrows a0.block a0.off (by simp[MemPlace.row])).1⟩
theorem X7k: "*" ++ "errors.errorString" = "*errors.errorString" :=by decide
theorem Jj(u:TypeId)(h: Tryz.prog.typeName? 3 u=some "*errors.errorString"):u= 266 :=
 typeName_ptr_named (nm:= "errors.errorString") (by rw[X7k];kernel_rfl) (by kernel_rfl) (by decide) u (by rw[X7k];exact h)
theorem Yi: Tryz.prog.cellsOf 282 =1:=by kernel_rfl
theorem Y3: Tryz.prog.cellsOf 9 =1:=by kernel_rfl
theorem Y1q:∀i,i<18->∀j,j<18->gsT.getD i []=gsT.getD j []->i=j:=by decide+kernel
theorem Y4t: Tryz.prog.globalNamed "phoenix/api.ErrOff" =some 3 :=by kernel_rfl
theorem Y6b:(Tryz.prog.globals[3]?).map (·.type)=some 36 :=by kernel_rfl
theorem X8q: Tryz.prog.globalNamed "phoenix/api.ErrRange" =some 2 :=by kernel_rfl
theorem Y0q:(Tryz.prog.globals[2]?).map (·.type)=some 36 :=by kernel_rfl
theorem X8r: Tryz.prog.globalNamed "phoenix/api.ErrShort" =some 4 :=by kernel_rfl
theorem Y0r:(Tryz.prog.globals[4]?).map (·.type)=some 36 :=by kernel_rfl
theorem Y4u: Tryz.prog.globalNamed "phoenix/api.ErrRec" =some 5 :=by kernel_rfl
theorem Y6c:(Tryz.prog.globals[5]?).map (·.type)=some 36 :=by kernel_rfl
theorem X8n: Tryz.prog.globalNamed "phoenix/api.ErrBlock" =some 6 :=by kernel_rfl
theorem Y0n:(Tryz.prog.globals[6]?).map (·.type)=some 36 :=by kernel_rfl
theorem X4x: Tryz.prog.globalNamed "phoenix/api.ErrMaster" =some 7 :=by kernel_rfl
theorem X6u:(Tryz.prog.globals[7]?).map (·.type)=some 36 :=by kernel_rfl
theorem Y1z: Tryz.prog.globalNamed "phoenix/api.ErrPage" =some 8 :=by kernel_rfl
theorem Y3p:(Tryz.prog.globals[8]?).map (·.type)=some 36 :=by kernel_rfl
theorem Y4s: Tryz.prog.globalNamed "phoenix/api.ErrLog" =some 1 :=by kernel_rfl
theorem Y6a:(Tryz.prog.globals[1]?).map (·.type)=some 36 :=by kernel_rfl
theorem X1u: Tryz.prog.globalNamed "phoenix/api.ErrLogFull" =some 0 :=by kernel_rfl
theorem X3p:(Tryz.prog.globals[0]?).map (·.type)=some 36 :=by kernel_rfl
theorem Y1x: Tryz.prog.globalNamed "phoenix/api.ErrFull" =some 9 :=by kernel_rfl
theorem Y3n:(Tryz.prog.globals[9]?).map (·.type)=some 36 :=by kernel_rfl
theorem X4w: Tryz.prog.globalNamed "phoenix/api.ErrLocked" =some 10 :=by kernel_rfl
theorem X6t:(Tryz.prog.globals[10]?).map (·.type)=some 36 :=by kernel_rfl
theorem Q9l: Tryz.prog.globalNamed "phoenix/api.ErrDeadlock" =some 11 :=by kernel_rfl
theorem X0n:(Tryz.prog.globals[11]?).map (·.type)=some 36 :=by kernel_rfl
theorem X8p: Tryz.prog.globalNamed "phoenix/api.ErrNoTxn" =some 12 :=by kernel_rfl
theorem Y0p:(Tryz.prog.globals[12]?).map (·.type)=some 36 :=by kernel_rfl
theorem Y1y: Tryz.prog.globalNamed "phoenix/api.ErrOpen" =some 13 :=by kernel_rfl
theorem Y3o:(Tryz.prog.globals[13]?).map (·.type)=some 36 :=by kernel_rfl
theorem Y2a: Tryz.prog.globalNamed "phoenix/api.ErrSave" =some 14 :=by kernel_rfl
theorem Y3q:(Tryz.prog.globals[14]?).map (·.type)=some 36 :=by kernel_rfl
theorem Y1w: Tryz.prog.globalNamed "phoenix/api.ErrBusy" =some 15 :=by kernel_rfl
theorem Y3m:(Tryz.prog.globals[15]?).map (·.type)=some 36 :=by kernel_rfl
theorem X8o: Tryz.prog.globalNamed "phoenix/api.ErrLimit" =some 16 :=by kernel_rfl
theorem Y0o:(Tryz.prog.globals[16]?).map (·.type)=some 36 :=by kernel_rfl
theorem X4v: Tryz.prog.globalNamed "phoenix/api.ErrClosed" =some 17 :=by kernel_rfl
theorem X6s:(Tryz.prog.globals[17]?).map (·.type)=some 36 :=by kernel_rfl
theorem V1.Y5o{W:World}(al:List Addr)(h:∀i,i<18->∃s:ByteArray,W.cell? ⟨gsL.getD i 0,0,none⟩=some (.iface 266 (.pointer (some (al.getD i ⟨0,0,none⟩))))/\W.cell? (al.getD i ⟨0,0,none⟩)=some (.string s)/\s.data.toList=gsT.getD i []/\∃c t,W.heap[(al.getD i ⟨0,0,none⟩).block]? =some (.cells c t (0,0))):
  V1 W (fun i=>al.getD i ⟨0,0,none⟩):=by
 refine⟨fun i hi=>(h i hi).choose_spec.1,fun i hi j hj he=> ?_,fun i hi=>(h i hi).choose_spec.2.2.2⟩
 obtain⟨s,_,h2,h3,_⟩:=h i hi
 obtain⟨t,_,k2,k3,_⟩:=h j hj
 refine Y1q i hi j hj ?_
 replace he:al.getD i ⟨0,0,none⟩=al.getD j ⟨0,0,none⟩:=he
 rw[<-h3,<-k3]
 rw[he,k2]at h2
 injection h2 with h2
 injection h2 with h2
 rw[h2]
theorem Dv{W:World}(hL:laidMetH Tryz.prog [("phoenix/api.ErrOff",Rows.laid_phoenix_api_ErrOff),("phoenix/api.ErrRange",Rows.laid_phoenix_api_ErrRange),("phoenix/api.ErrShort",Rows.laid_phoenix_api_ErrShort),("phoenix/api.ErrRec",Rows.laid_phoenix_api_ErrRec),("phoenix/api.ErrBlock",Rows.laid_phoenix_api_ErrBlock),("phoenix/api.ErrMaster",Rows.laid_phoenix_api_ErrMaster),("phoenix/api.ErrPage",Rows.laid_phoenix_api_ErrPage),("phoenix/api.ErrLog",Rows.laid_phoenix_api_ErrLog),("phoenix/api.ErrLogFull",Rows.laid_phoenix_api_ErrLogFull),("phoenix/api.ErrFull",Rows.laid_phoenix_api_ErrFull),("phoenix/api.ErrLocked",Rows.laid_phoenix_api_ErrLocked),("phoenix/api.ErrDeadlock",Rows.laid_phoenix_api_ErrDeadlock),("phoenix/api.ErrNoTxn",Rows.laid_phoenix_api_ErrNoTxn),("phoenix/api.ErrOpen",Rows.laid_phoenix_api_ErrOpen),("phoenix/api.ErrSave",Rows.laid_phoenix_api_ErrSave),("phoenix/api.ErrBusy",Rows.laid_phoenix_api_ErrBusy),("phoenix/api.ErrLimit",Rows.laid_phoenix_api_ErrLimit),("phoenix/api.ErrClosed",Rows.laid_phoenix_api_ErrClosed)] W):∃f,V1 W f:=by
 rw[MakeChecks.laidMetH_plain _ _ _ (by kernel_rfl)]at hL
 obtain⟨a0,s0,v0,c0,e0,k0⟩:=X3 hL Y4t Y6b Tryz.underlying36 Jj Tryz.underlying266 Tryz.underlying282 rfl rfl Tryz.underlying9 Yi Y3
 have h1:=hL.tail
 obtain⟨a1,s1,v1,c1,e1,k1⟩:=X3 h1 X8q Y0q Tryz.underlying36 Jj Tryz.underlying266 Tryz.underlying282 rfl rfl Tryz.underlying9 Yi Y3
 have h2:=h1.tail
 obtain⟨a2,s2,v2,c2,e2,k2⟩:=X3 h2 X8r Y0r Tryz.underlying36 Jj Tryz.underlying266 Tryz.underlying282 rfl rfl Tryz.underlying9 Yi Y3
 have h3:=h2.tail
 obtain⟨a3,s3,v3,c3,e3,k3⟩:=X3 h3 Y4u Y6c Tryz.underlying36 Jj Tryz.underlying266 Tryz.underlying282 rfl rfl Tryz.underlying9 Yi Y3
 have h4:=h3.tail
 obtain⟨a4,s4,v4,c4,e4,k4⟩:=X3 h4 X8n Y0n Tryz.underlying36 Jj Tryz.underlying266 Tryz.underlying282 rfl rfl Tryz.underlying9 Yi Y3
 have h5:=h4.tail
 obtain⟨a5,s5,v5,c5,e5,k5⟩:=X3 h5 X4x X6u Tryz.underlying36 Jj Tryz.underlying266 Tryz.underlying282 rfl rfl Tryz.underlying9 Yi Y3
 have h6:=h5.tail
 obtain⟨a6,s6,v6,c6,e6,k6⟩:=X3 h6 Y1z Y3p Tryz.underlying36 Jj Tryz.underlying266 Tryz.underlying282 rfl rfl Tryz.underlying9 Yi Y3
 have h7:=h6.tail
 obtain⟨a7,s7,v7,c7,e7,k7⟩:=X3 h7 Y4s Y6a Tryz.underlying36 Jj Tryz.underlying266 Tryz.underlying282 rfl rfl Tryz.underlying9 Yi Y3
 have h8:=h7.tail
 obtain⟨a8,s8,v8,c8,e8,k8⟩:=X3 h8 X1u X3p Tryz.underlying36 Jj Tryz.underlying266 Tryz.underlying282 rfl rfl Tryz.underlying9 Yi Y3
 have h9:=h8.tail
 obtain⟨a9,s9,v9,c9,e9,k9⟩:=X3 h9 Y1x Y3n Tryz.underlying36 Jj Tryz.underlying266 Tryz.underlying282 rfl rfl Tryz.underlying9 Yi Y3
 have h10:=h9.tail
 obtain⟨a10,s10,v10,c10,e10,k10⟩:=X3 h10 X4w X6t Tryz.underlying36 Jj Tryz.underlying266 Tryz.underlying282 rfl rfl Tryz.underlying9 Yi Y3
 have h11:=h10.tail
 obtain⟨a11,s11,v11,c11,e11,k11⟩:=X3 h11 Q9l X0n Tryz.underlying36 Jj Tryz.underlying266 Tryz.underlying282 rfl rfl Tryz.underlying9 Yi Y3
 have h12:=h11.tail
 obtain⟨a12,s12,v12,c12,e12,k12⟩:=X3 h12 X8p Y0p Tryz.underlying36 Jj Tryz.underlying266 Tryz.underlying282 rfl rfl Tryz.underlying9 Yi Y3
 have h13:=h12.tail
 obtain⟨a13,s13,v13,c13,e13,k13⟩:=X3 h13 Y1y Y3o Tryz.underlying36 Jj Tryz.underlying266 Tryz.underlying282 rfl rfl Tryz.underlying9 Yi Y3
 have h14:=h13.tail
 obtain⟨a14,s14,v14,c14,e14,k14⟩:=X3 h14 Y2a Y3q Tryz.underlying36 Jj Tryz.underlying266 Tryz.underlying282 rfl rfl Tryz.underlying9 Yi Y3
 have h15:=h14.tail
 obtain⟨a15,s15,v15,c15,e15,k15⟩:=X3 h15 Y1w Y3m Tryz.underlying36 Jj Tryz.underlying266 Tryz.underlying282 rfl rfl Tryz.underlying9 Yi Y3
 have h16:=h15.tail
 obtain⟨a16,s16,v16,c16,e16,k16⟩:=X3 h16 X8o Y0o Tryz.underlying36 Jj Tryz.underlying266 Tryz.underlying282 rfl rfl Tryz.underlying9 Yi Y3
 have h17:=h16.tail
 obtain⟨a17,s17,v17,c17,e17,k17⟩:=X3 h17 X4v X6s Tryz.underlying36 Jj Tryz.underlying266 Tryz.underlying282 rfl rfl Tryz.underlying9 Yi Y3
 refine⟨_,V1.Y5o [a0,a1,a2,a3,a4,a5,a6,a7,a8,a9,a10,a11,a12,a13,a14,a15,a16,a17] fun i hi=> ?_⟩
 match i,hi with
 |0,_=>exact⟨s0,v0,c0,e0,k0⟩
 |1,_=>exact⟨s1,v1,c1,e1,k1⟩
 |2,_=>exact⟨s2,v2,c2,e2,k2⟩
 |3,_=>exact⟨s3,v3,c3,e3,k3⟩
 |4,_=>exact⟨s4,v4,c4,e4,k4⟩
 |5,_=>exact⟨s5,v5,c5,e5,k5⟩
 |6,_=>exact⟨s6,v6,c6,e6,k6⟩
 |7,_=>exact⟨s7,v7,c7,e7,k7⟩
 |8,_=>exact⟨s8,v8,c8,e8,k8⟩
 |9,_=>exact⟨s9,v9,c9,e9,k9⟩
 |10,_=>exact⟨s10,v10,c10,e10,k10⟩
 |11,_=>exact⟨s11,v11,c11,e11,k11⟩
 |12,_=>exact⟨s12,v12,c12,e12,k12⟩
 |13,_=>exact⟨s13,v13,c13,e13,k13⟩
 |14,_=>exact⟨s14,v14,c14,e14,k14⟩
 |15,_=>exact⟨s15,v15,c15,e15,k15⟩
 |16,_=>exact⟨s16,v16,c16,e16,k16⟩
 |17,_=>exact⟨s17,v17,c17,e17,k17⟩
 |i+18,hi=>exact absurd hi (by omega)
end
section
set_option maxHeartbeats 1000000
set_option maxRecDepth 4000
open Go.RowKit Go.ChangeShapes
abbrev Zw(a:Addr):Value:=.iface 266 (.pointer (some a))
abbrev X5(code:Int):Value:=.agg #[.int .i64 code,.bool false,.int .i64 0]
theorem X7j:∃i j:TypeInfo,Tryz.prog.info? 266 =some i/\i.comparable=true/\ Tryz.prog.info? 282 =some j/\j.size≠0:=by
 have h:((Tryz.prog.info? 266).map (·.comparable)=some true)/\((Tryz.prog.info? 282).map (·.size)=some 1):=⟨by kernel_rfl,by kernel_rfl⟩
 obtain⟨i,hi,hc⟩:=Option.map_eq_some_iff.1 h.1
 obtain⟨j,hj,hs⟩:=Option.map_eq_some_iff.1 h.2
 exact⟨i,j,hi,hc,hj,by omega⟩
theorem X2y(w:World)(a:Addr):(binOp .eql 36 (Zw a) (Zw a)).run Tryz.prog w=.ok (.bool true) w:=by
 obtain⟨i,j,hi,hc,hj,hs⟩:=X7j
 exact run_eql_iface_ptr_same w a Tryz.underlying36 Tryz.underlying266 hi hc hj
theorem X0b{w:World}{a b:Addr}(hne:a≠b)(ha:∃c t,w.heap[a.block]? =some (.cells c t (0,0)))(hb:∃c t,w.heap[b.block]? =some (.cells c t (0,0))):
  (binOp .eql 36 (Zw a) (Zw b)).run Tryz.prog w=.ok (.bool false) w:=by
 obtain⟨i,j,hi,hc,hj,hs⟩:=X7j
 obtain⟨_,_,ha⟩:=ha
 obtain⟨_,_,hb⟩:=hb
 exact run_eql_iface_ptr_other w Tryz.underlying36 Tryz.underlying266 hi hc hj hs hne ha hb
theorem Q7o(a b:Addr)(w:World)(ha:∃c t,w.heap[a.block]? =some (.cells c t (0,0)))(hb:∃c t,w.heap[b.block]? =some (.cells c t (0,0))):Calls Tryz.prog 130 #[Zw a,Zw b] w fun e w'=>e=.returned (.bool (decide (a=b)))/\w=w':=by
 by_cases h:a=b
 ·subst h
  have hr:=X2y w a
  clear ha hb
  go_enter Tryz.func130,Tryz.ntmps130
  go_wp2
  go_ret
  exact⟨by simp,rfl⟩
 ·have hd:decide (a=b)=false:=decide_eq_false h
  have HD:=Q0 hd
  have hr:=X0b h ha hb
  clear hd ha hb h
  go_enter Tryz.func130,Tryz.ntmps130
  go_wp2
  go_ret
  exact⟨by rw[HD.o];rfl,rfl⟩
def Q3d(f:Nat->Addr):List Value:=(List.range 18).map fun i=>Zw (f i)
theorem Q6o(f:Nat->Addr)(w:World)(h:V1 w f):Calls Tryz.prog 129 #[] w fun e w'=>e=.returned (.slice (some ⟨w.heap.size,0,none⟩) 18 18)/\w'=w.alloc (.cells (Q3d f).toArray 36):=by
 have c0:w.cell? ⟨3,0,none⟩=some (Zw (f 0)):=h.cell 0 (by omega)
 have c1:w.cell? ⟨2,0,none⟩=some (Zw (f 1)):=h.cell 1 (by omega)
 have c2:w.cell? ⟨4,0,none⟩=some (Zw (f 2)):=h.cell 2 (by omega)
 have c3:w.cell? ⟨5,0,none⟩=some (Zw (f 3)):=h.cell 3 (by omega)
 have c4:w.cell? ⟨6,0,none⟩=some (Zw (f 4)):=h.cell 4 (by omega)
 have c5:w.cell? ⟨7,0,none⟩=some (Zw (f 5)):=h.cell 5 (by omega)
 have c6:w.cell? ⟨8,0,none⟩=some (Zw (f 6)):=h.cell 6 (by omega)
 have c7:w.cell? ⟨1,0,none⟩=some (Zw (f 7)):=h.cell 7 (by omega)
 have c8:w.cell? ⟨0,0,none⟩=some (Zw (f 8)):=h.cell 8 (by omega)
 have c9:w.cell? ⟨9,0,none⟩=some (Zw (f 9)):=h.cell 9 (by omega)
 have c10:w.cell? ⟨10,0,none⟩=some (Zw (f 10)):=h.cell 10 (by omega)
 have c11:w.cell? ⟨11,0,none⟩=some (Zw (f 11)):=h.cell 11 (by omega)
 have c12:w.cell? ⟨12,0,none⟩=some (Zw (f 12)):=h.cell 12 (by omega)
 have c13:w.cell? ⟨13,0,none⟩=some (Zw (f 13)):=h.cell 13 (by omega)
 have c14:w.cell? ⟨14,0,none⟩=some (Zw (f 14)):=h.cell 14 (by omega)
 have c15:w.cell? ⟨15,0,none⟩=some (Zw (f 15)):=h.cell 15 (by omega)
 have c16:w.cell? ⟨16,0,none⟩=some (Zw (f 16)):=h.cell 16 (by omega)
 have c17:w.cell? ⟨17,0,none⟩=some (Zw (f 17)):=h.cell 17 (by omega)
 clear h
 go_enter Tryz.func129,Tryz.ntmps129
 go_wp2
 go_ret
 exact⟨rfl,rfl⟩
theorem X8i(f:Nat->Addr){w:World}{g:Nat}{t:TypeId}(h:w.heap[g]? =some (.cells (Q3d f).toArray t (0,0))){i:Nat}(hi:i<18):w.cell? ⟨g,i,none⟩=some (Zw (f i)):=by
 simp[World.cell?,h,Q3d,List.getElem?_range hi]
theorem Q0p(f:Nat->Addr)(w:World)(h:V1 w f)(m:Nat)(hm:m<18):Calls Tryz.prog 87 #[Zw (f m)] w fun e w'=>e=.returned (.int .i64 (101+m))/\Below w.heap.size w w':=by
 have HS:=Q0 h
 clear h
 go_enter Tryz.func87,Tryz.ntmps87
 go_wp2_with fail
 refine(Q6o f _ HS.o).mono ?_
 rintro e w1 ⟨rfl,hw1⟩
 obtain⟨g,hg⟩:∃g,w.heap.size=g:=⟨_,rfl⟩
 have HG:Sc (w1.heap[g]? =some (.cells (Q3d f).toArray 36 (0,0))):=⟨by rw[hw1,<-hg];exact heap_alloc_new w _⟩
 have HB1:Sc (Below w.heap.size w w1):=⟨by rw[hw1];exact(Below.refl _ _).alloc (Nat.le_refl _) _⟩
 have HS1:=Q0 (HS.o.bel HB1.o)
 rw[hg]
 clear hw1 hg
 go_wp2_with fail
 go_loop [2,4] (fun s2 s4=>∃i:Nat,s2=.int .i64 0/\s4=.int .i64 i/\i<=m) (fun _ s4=>18 - (intOf s4).toNat)
 case atStart=>exact⟨0,rfl,rfl,by omega⟩
 case round=>
  obtain⟨i,rfl,rfl,him⟩:=hrel
  have hi18:(i:Int)<18:=by omega
  have hc:=X8i f HG.o (show i<18 by omega)
  by_cases hlt:i=m
  ·have HD:Sc (decide (f m=f i)=true):=⟨by rw[hlt];simp⟩
   have HE:Sc (101+(i:Int)=101+(m:Int)):=⟨by rw[hlt]⟩
   clear hlt
   go_wp2_with fail
   refine(Q7o (f m) (f i) _ (HS1.o.blk m hm) (HS1.o.blk i (by omega))).mono ?_
   rintro e w2 ⟨rfl,rfl⟩
   rw[HD.o]
   go_wp2
   go_ret
   exact⟨by rw[<-HE.o];rfl,HB1.o⟩
  ·have HD:Sc (decide (f m=f i)=false):=⟨decide_eq_false fun h=>hlt (HS1.o.inj m hm i (by omega) h).symm⟩
   have hlt2:i<m:=by omega
   clear hlt
   go_wp2_with fail
   refine(Q7o (f m) (f i) _ (HS1.o.blk m hm) (HS1.o.blk i (by omega))).mono ?_
   rintro e w2 ⟨rfl,rfl⟩
   rw[HD.o]
   go_wp2
   go_round
   case rel=>exact⟨i+1,rfl,by go_num,by omega⟩
   case measure=>simp[intOf];omega
theorem Yb(w:World)(c:Int):Calls Tryz.prog 61 #[.int .i64 c] w fun e w'=>e=.returned (X5 c)/\Below w.heap.size w w':=by
 go_enter Tryz.func61,Tryz.ntmps61
 go_wp2
 refine bodyPost_ret (v:=X5 c) (by simp[results,Tryz.results61,go_sem]) rfl ⟨rfl,(Below.refl _ _).alloc (Nat.le_refl _) _⟩
theorem Vc(w:World):Calls Tryz.prog 41 #[] w fun e w'=>e=.returned (X5 0)/\Below w.heap.size w w':=by
 go_enter Tryz.func41,Tryz.ntmps41
 go_wp2
 refine bodyPost_ret (v:=X5 0) (by simp[results,Tryz.results41,go_sem]) rfl ⟨rfl,(Below.refl _ _).alloc (Nat.le_refl _) _⟩
theorem Q5l(w:World)(c:Int):Calls Tryz.prog 45 #[X5 c,X5 c] w fun e w'=>e=.returned (.bool true)/\Below w.heap.size w w':=by
 go_enter Tryz.func45,Tryz.ntmps45
 go_wp2
 go_ret
 exact⟨rfl,((Below.refl _ _).alloc (Nat.le_refl _) _).alloc (by simp) _⟩
theorem Q9i(w:World):Calls Tryz.prog 46 #[.nilIface] w fun e w'=>e=.returned (X5 0)/\Below w.heap.size w w':=by
 go_enter Tryz.func46,Tryz.ntmps46
 go_wp2_with fail
 refine(Vc _).mono ?_
 rintro e w1 ⟨rfl,hb⟩
 have hz:w1.heap[w.heap.size]? =some (.cells #[.int .i64 0,.bool false,.int .i64 0] 41 (0,0)):=(hb.block _ (by simp)).trans (heap_alloc_new w _)
 have HB:=Q0 (Q5 (Q3 (Below.refl _ _) _) hb)
 have z0:w1.cell? ⟨w.heap.size,0,none⟩=some (.int .i64 0):=by simp[World.cell?,hz]
 have z1:w1.cell? ⟨w.heap.size,1,none⟩=some (.bool false):=by simp[World.cell?,hz]
 have z2:w1.cell? ⟨w.heap.size,2,none⟩=some (.int .i64 0):=by simp[World.cell?,hz]
 have y0:=Q2 hz 0
 have y1:=Q2 hz 1
 have y2:=Q2 hz 2
 clear hb hz
 go_wp2
 refine bodyPost_ret (v:=X5 0) (by simp[results,Tryz.results46,go_sem,z0,z1,z2]) rfl ⟨rfl,?_⟩
 exact((HB.o.setCell (Nat.le_refl _) _).setCell (Nat.le_refl _) _).setCell (Nat.le_refl _) _
theorem Y3d(a:Addr)(w:World):(Instr.typeAssert (Zw a) 36 163 true).run Tryz.prog w=.ok (.tuple #[.pointer none,.bool false]) w:=by kernel_rfl
theorem Q9h(f:Nat->Addr)(w:World)(h:V1 w f)(m:Nat)(hm:m<18):Calls Tryz.prog 46 #[Zw (f m)] w fun e w'=>e=.returned (X5 (101+m))/\Below w.heap.size w w':=by
 have hta:=Y3d (f m)
 have HS:=Q0 (h.bel ((Below.refl _ _).alloc (Nat.le_refl _) (.cells #[.int .i64 0,.bool false,.int .i64 0] 41)))
 clear h
 go_enter Tryz.func46,Tryz.ntmps46
 go_wp2_with fail
 refine(Q0p f _ HS.o m hm).mono ?_
 rintro e w1 ⟨rfl,hb⟩
 have hz1:w1.heap[w.heap.size]? =some (.cells #[.int .i64 0,.bool false,.int .i64 0] 41 (0,0)):=(hb.block _ (by simp)).trans (heap_alloc_new w _)
 have HB1:=Q0 (Q5 (Q3 (Below.refl _ _) _) hb)
 have HZ1:=Q0 hz1
 clear hb hz1 hta
 go_wp2_with fail
 refine(Yb _ _).mono ?_
 rintro e w2 ⟨rfl,hb⟩
 have hz:=up hb HZ1.o
 have HB:=Q0 (Q5 HB1.o hb)
 have z0:w2.cell? ⟨w.heap.size,0,none⟩=some (.int .i64 0):=by simp[World.cell?,hz]
 have z1:w2.cell? ⟨w.heap.size,1,none⟩=some (.bool false):=by simp[World.cell?,hz]
 have z2:w2.cell? ⟨w.heap.size,2,none⟩=some (.int .i64 0):=by simp[World.cell?,hz]
 have y0:=Q2 hz 0
 have y1:=Q2 hz 1
 have y2:=Q2 hz 2
 clear hb hz
 go_wp2
 refine bodyPost_ret (v:=X5 (101+m)) (by simp[results,Tryz.results46,go_sem,z0,z1,z2]) rfl ⟨rfl,?_⟩
 exact((HB.o.setCell (Nat.le_refl _) _).setCell (Nat.le_refl _) _).setCell (Nat.le_refl _) _
inductive Q1s (w:World) (f:Nat->Addr):Value->Int->Prop where
 |ok:Q1s w f .nilIface 0
 |bad (m:Nat):m<18->V1 w f->Q1s w f (Zw (f m)) (101+m)
theorem Q1s.bel{w w':World}{f:Nat->Addr}{v:Value}{c:Int}(h:Q1s w f v c)(hb:Below w.heap.size w w'):Q1s w' f v c:=by
 cases h with
 |ok=>exact .ok
 |bad m hm hs=>exact .bad m hm (hs.bel hb)
theorem X8j{f:Nat->Addr}{w:World}{v:Value}{c:Int}(h:Q1s w f v c):Calls Tryz.prog 46 #[v] w fun e w'=>e=.returned (X5 c)/\Below w.heap.size w w':=by
 cases h with
 |ok=>exact Q9i w
 |bad m hm hs=>exact Q9h f w hs m hm
theorem X2z{f:Nat->Addr}{w:World}{v:Value}{c:Int}(h:Q1s w f v c):Calls Tryz.prog 16 #[v,X5 c] w fun e w'=>e=.returned (.bool true)/\Below w.heap.size w w':=by
 have hz:=heap_alloc_new w (.cells #[.int .i64 c,.bool false,.int .i64 0] 41)
 have HE:=Q0 (h.bel ((Below.refl _ _).alloc (Nat.le_refl _) (.cells #[.int .i64 c,.bool false,.int .i64 0] 41)))
 have HW:Sc (Below w.heap.size w (w.alloc (.cells #[.int .i64 c,.bool false,.int .i64 0] 41))):=⟨(Below.refl _ _).alloc (Nat.le_refl _) _⟩
 obtain⟨w1,hw1⟩:∃w1,w.alloc (.cells #[.int .i64 c,.bool false,.int .i64 0] 41)=w1:=⟨_,rfl⟩
 have HW1:=Q0 hw1
 rw[hw1]at hz HE HW
 have hc0:∀X:Y2 w1,X.world.cell? ⟨w.heap.size,0,none⟩=some (.int .i64 c):=fun X=>X.cell (by simp[World.cell?,hz])
 have hc1:∀X:Y2 w1,X.world.cell? ⟨w.heap.size,1,none⟩=some (.bool false):=fun X=>X.cell (by simp[World.cell?,hz])
 have hc2:∀X:Y2 w1,X.world.cell? ⟨w.heap.size,2,none⟩=some (.int .i64 0):=fun X=>X.cell (by simp[World.cell?,hz])
 clear h hw1 hz
 go_enter Tryz.func16,Tryz.ntmps16
 go_wp2_with fail
 rw[HW1.o]
 refine Xn (by kernel_rfl) (by kernel_rfl) ?_
 repeat (go_big_quiet_step (first
  |(go_at_call 46;exact Y2.call _ (X8j (HE.o.bel (Y2.below _))))
  |(go_at_call 45;exact Y2.call _ (Q5l _ _))))
 refine wpQuiet_nil ?_
 intro wq hw'
 have HBQ:=Q0 (Y2.Ju hw')
 clear hw'
 go_wp2
 go_ret
 exact⟨rfl,Q5 HW.o HBQ.o⟩
theorem Y2i{f:Nat->Addr}{w:World}{v:Value}{c:Int}(h:Q1s w f v c):Calls Tryz.prog 27 #[v,.int .i64 c] w fun e w'=>e=.returned (.bool true)/\Below w.heap.size w w':=by
 have HE:=Q0 h
 clear h
 go_enter Tryz.func27,Tryz.ntmps27
 go_wp2_with fail
 refine(Yb _ c).mono ?_
 rintro e w1 ⟨rfl,hb1⟩
 have HB1:=Q0 hb1
 clear hb1
 go_wp2_with fail
 refine(X2z (HE.o.bel HB1.o)).mono ?_
 rintro e w2 ⟨rfl,hb2⟩
 have HB2:=Q0 (Q5 HB1.o hb2)
 clear hb2
 go_wp2
 go_ret
 exact⟨rfl,HB2.o⟩
end
end Go.Proofs.YtoapihepdallbaaGreatDoor
