import Derived.Test.YtoapihepdallbaaGreatDoorP12
namespace Go.Proofs.YtoapihepdallbaaGreatDoor
open Go.RowKit
set_option maxHeartbeats 4000000
set_option maxRecDepth 10000
theorem Y5d(txn page prev next key:Int)(had has:Bool)(old new:Int):Qq ⟨9,txn,page,prev,next,key,had,has,old,new⟩=((txn==0)&&(inR page 1 32&&(inR prev 1 1073741824&&(inR next 0 0&&(inR key 0 0&&Qk ⟨9,txn,page,prev,next,key,had,has,old,new⟩))))):=by
 have hp:Z7 ⟨9,txn,page,prev,next,key,had,has,old,new⟩=inR prev 1 1073741824:=by simp[Z7]
 have hn:Z6 ⟨9,txn,page,prev,next,key,had,has,old,new⟩=inR next 0 0:=by simp[Z6,Xr,Yd]
 have hk:Va ⟨9,txn,page,prev,next,key,had,has,old,new⟩=inR key 0 0:=by simp[Va,Xr,Yd]
 have ht:inR txn (min (Yv ⟨9,txn,page,prev,next,key,had,has,old,new⟩) 1) (Yv ⟨9,txn,page,prev,next,key,had,has,old,new⟩)=(txn==0):=by rw[show Yv ⟨9,txn,page,prev,next,key,had,has,old,new⟩=0 by simp[Yv]];exact Xr txn
 have hg:inR page (min (Xi ⟨9,txn,page,prev,next,key,had,has,old,new⟩) 1) (Xi ⟨9,txn,page,prev,next,key,had,has,old,new⟩)=inR page 1 32:=by rw[show Xi ⟨9,txn,page,prev,next,key,had,has,old,new⟩=32 by simp[Xi]];exact rfl
 have h0:inR (9:Int) 1 10=true:=by decide
 unfold Qq
 rw[hp,hn,hk,ht,hg]
 simp only[h0,Bool.true_and,Bool.and_assoc]
theorem X9c(w:World)(txn page prev next key:Int)(had has:Bool)(old new:Int):Calls Tryz.prog 73 #[Yg ⟨9,txn,page,prev,next,key,had,has,old,new⟩] w fun e w'=>e=.returned (.bool (Qq ⟨9,txn,page,prev,next,key,had,has,old,new⟩))/\Below w.heap.size w w':=by
 have HB:Sc (Below w.heap.size w (w.alloc (.cells (Qe ⟨9,txn,page,prev,next,key,had,has,old,new⟩) 49))):=⟨Q3 (Below.refl _ _) _⟩
 rw[Y5d]
 by_cases ze1:txn=0
 ·subst ze1
  cases e2:inR page 1 32 with
  |false=>
   go_enter Tryz.func73,Tryz.ntmps73
   go_wp2_with (go_at_call 120;first|(refine(Q4 _ (by assumption)).mono ?_;rintro e w' ⟨rfl,rfl⟩)|(refine(Q4 _ (show _=true by decide)).mono ?_;rintro e w' ⟨rfl,rfl⟩)|(refine(Q4 _ (show _=false by decide)).mono ?_;rintro e w' ⟨rfl,rfl⟩))
   go_ret
   exact⟨by simp,HB.o⟩
  |true=>
   cases e3:inR prev 1 1073741824 with
   |false=>
    go_enter Tryz.func73,Tryz.ntmps73
    go_wp2_with (go_at_call 120;first|(refine(Q4 _ (by assumption)).mono ?_;rintro e w' ⟨rfl,rfl⟩)|(refine(Q4 _ (show _=true by decide)).mono ?_;rintro e w' ⟨rfl,rfl⟩)|(refine(Q4 _ (show _=false by decide)).mono ?_;rintro e w' ⟨rfl,rfl⟩))
    go_ret
    exact⟨by simp,HB.o⟩
   |true=>
    cases e4:inR next 0 0 with
    |false=>
     go_enter Tryz.func73,Tryz.ntmps73
     go_wp2_with (go_at_call 120;first|(refine(Q4 _ (by assumption)).mono ?_;rintro e w' ⟨rfl,rfl⟩)|(refine(Q4 _ (show _=true by decide)).mono ?_;rintro e w' ⟨rfl,rfl⟩)|(refine(Q4 _ (show _=false by decide)).mono ?_;rintro e w' ⟨rfl,rfl⟩))
     go_ret
     exact⟨by simp,HB.o⟩
    |true=>
     cases e5:inR key 0 0 with
     |false=>
      go_enter Tryz.func73,Tryz.ntmps73
      go_wp2_with (go_at_call 120;first|(refine(Q4 _ (by assumption)).mono ?_;rintro e w' ⟨rfl,rfl⟩)|(refine(Q4 _ (show _=true by decide)).mono ?_;rintro e w' ⟨rfl,rfl⟩)|(refine(Q4 _ (show _=false by decide)).mono ?_;rintro e w' ⟨rfl,rfl⟩))
      go_ret
      exact⟨by simp,HB.o⟩
     |true=>
      cases had with
      |true=>
       go_enter Tryz.func73,Tryz.ntmps73
       go_wp2_with (go_at_call 120;first|(refine(Q4 _ (by assumption)).mono ?_;rintro e w' ⟨rfl,rfl⟩)|(refine(Q4 _ (show _=true by decide)).mono ?_;rintro e w' ⟨rfl,rfl⟩)|(refine(Q4 _ (show _=false by decide)).mono ?_;rintro e w' ⟨rfl,rfl⟩))
       go_ret
       exact⟨by simp[Qk],HB.o⟩
      |false=>
       by_cases ho:old=0
       ·subst ho
        cases has with
        |true=>
         go_enter Tryz.func73,Tryz.ntmps73
         go_wp2_with (go_at_call 120;first|(refine(Q4 _ (by assumption)).mono ?_;rintro e w' ⟨rfl,rfl⟩)|(refine(Q4 _ (show _=true by decide)).mono ?_;rintro e w' ⟨rfl,rfl⟩)|(refine(Q4 _ (show _=false by decide)).mono ?_;rintro e w' ⟨rfl,rfl⟩))
         go_ret
         exact⟨by simp[Qk],HB.o⟩
        |false=>
         by_cases hn:new=0
         ·subst hn
          go_enter Tryz.func73,Tryz.ntmps73
          go_wp2_with (go_at_call 120;first|(refine(Q4 _ (by assumption)).mono ?_;rintro e w' ⟨rfl,rfl⟩)|(refine(Q4 _ (show _=true by decide)).mono ?_;rintro e w' ⟨rfl,rfl⟩)|(refine(Q4 _ (show _=false by decide)).mono ?_;rintro e w' ⟨rfl,rfl⟩))
          go_ret
          exact⟨by simp[Qk],HB.o⟩
         ·have hb:=Ql hn
          go_enter Tryz.func73,Tryz.ntmps73
          go_wp2_with (go_at_call 120;first|(refine(Q4 _ (by assumption)).mono ?_;rintro e w' ⟨rfl,rfl⟩)|(refine(Q4 _ (show _=true by decide)).mono ?_;rintro e w' ⟨rfl,rfl⟩)|(refine(Q4 _ (show _=false by decide)).mono ?_;rintro e w' ⟨rfl,rfl⟩))
          go_ret
          exact⟨by simp[Qk,hn],HB.o⟩
       ·have hb:=Ql ho
        go_enter Tryz.func73,Tryz.ntmps73
        go_wp2_with (go_at_call 120;first|(refine(Q4 _ (by assumption)).mono ?_;rintro e w' ⟨rfl,rfl⟩)|(refine(Q4 _ (show _=true by decide)).mono ?_;rintro e w' ⟨rfl,rfl⟩)|(refine(Q4 _ (show _=false by decide)).mono ?_;rintro e w' ⟨rfl,rfl⟩))
        go_ret
        exact⟨by simp[Qk,ho],HB.o⟩
 ·have e1:=Ql ze1
  go_enter Tryz.func73,Tryz.ntmps73
  go_wp2_with (go_at_call 120;first|(refine(Q4 _ (by assumption)).mono ?_;rintro e w' ⟨rfl,rfl⟩)|(refine(Q4 _ (show _=true by decide)).mono ?_;rintro e w' ⟨rfl,rfl⟩)|(refine(Q4 _ (show _=false by decide)).mono ?_;rintro e w' ⟨rfl,rfl⟩))
  go_ret
  exact⟨by simp[ze1],HB.o⟩
theorem Y2b(txn page prev next key:Int)(had has:Bool)(old new:Int):Qq ⟨10,txn,page,prev,next,key,had,has,old,new⟩=((txn==0)&&((page==0)&&((prev==0)&&(inR next 0 60000&&(inR key 0 0&&Qk ⟨10,txn,page,prev,next,key,had,has,old,new⟩))))):=by
 have hp:Z7 ⟨10,txn,page,prev,next,key,had,has,old,new⟩=(prev==0):=by simp[Z7,Yd]
 have hn:Z6 ⟨10,txn,page,prev,next,key,had,has,old,new⟩=inR next 0 60000:=by simp[Z6]
 have hk:Va ⟨10,txn,page,prev,next,key,had,has,old,new⟩=inR key 0 0:=by simp[Va,Xr,Yd]
 have ht:inR txn (min (Yv ⟨10,txn,page,prev,next,key,had,has,old,new⟩) 1) (Yv ⟨10,txn,page,prev,next,key,had,has,old,new⟩)=(txn==0):=by rw[show Yv ⟨10,txn,page,prev,next,key,had,has,old,new⟩=0 by simp[Yv]];exact Xr txn
 have hg:inR page (min (Xi ⟨10,txn,page,prev,next,key,had,has,old,new⟩) 1) (Xi ⟨10,txn,page,prev,next,key,had,has,old,new⟩)=(page==0):=by rw[show Xi ⟨10,txn,page,prev,next,key,had,has,old,new⟩=0 by simp[Xi]];exact Xr page
 have h0:inR (10:Int) 1 10=true:=by decide
 unfold Qq
 rw[hp,hn,hk,ht,hg]
 simp only[h0,Bool.true_and,Bool.and_assoc]
theorem X5b(w:World)(txn page prev next key:Int)(had has:Bool)(old new:Int):Calls Tryz.prog 73 #[Yg ⟨10,txn,page,prev,next,key,had,has,old,new⟩] w fun e w'=>e=.returned (.bool (Qq ⟨10,txn,page,prev,next,key,had,has,old,new⟩))/\Below w.heap.size w w':=by
 have HB:Sc (Below w.heap.size w (w.alloc (.cells (Qe ⟨10,txn,page,prev,next,key,had,has,old,new⟩) 49))):=⟨Q3 (Below.refl _ _) _⟩
 rw[Y2b]
 by_cases ze1:txn=0
 ·subst ze1
  by_cases ze2:page=0
  ·subst ze2
   by_cases ze3:prev=0
   ·subst ze3
    cases e4:inR next 0 60000 with
    |false=>
     go_enter Tryz.func73,Tryz.ntmps73
     go_wp2_with (go_at_call 120;first|(refine(Q4 _ (by assumption)).mono ?_;rintro e w' ⟨rfl,rfl⟩)|(refine(Q4 _ (show _=true by decide)).mono ?_;rintro e w' ⟨rfl,rfl⟩)|(refine(Q4 _ (show _=false by decide)).mono ?_;rintro e w' ⟨rfl,rfl⟩))
     go_ret
     exact⟨by simp,HB.o⟩
    |true=>
     cases e5:inR key 0 0 with
     |false=>
      go_enter Tryz.func73,Tryz.ntmps73
      go_wp2_with (go_at_call 120;first|(refine(Q4 _ (by assumption)).mono ?_;rintro e w' ⟨rfl,rfl⟩)|(refine(Q4 _ (show _=true by decide)).mono ?_;rintro e w' ⟨rfl,rfl⟩)|(refine(Q4 _ (show _=false by decide)).mono ?_;rintro e w' ⟨rfl,rfl⟩))
      go_ret
      exact⟨by simp,HB.o⟩
     |true=>
      cases had with
      |true=>
       go_enter Tryz.func73,Tryz.ntmps73
       go_wp2_with (go_at_call 120;first|(refine(Q4 _ (by assumption)).mono ?_;rintro e w' ⟨rfl,rfl⟩)|(refine(Q4 _ (show _=true by decide)).mono ?_;rintro e w' ⟨rfl,rfl⟩)|(refine(Q4 _ (show _=false by decide)).mono ?_;rintro e w' ⟨rfl,rfl⟩))
       go_ret
       exact⟨by simp[Qk],HB.o⟩
      |false=>
       by_cases ho:old=0
       ·subst ho
        cases has with
        |true=>
         go_enter Tryz.func73,Tryz.ntmps73
         go_wp2_with (go_at_call 120;first|(refine(Q4 _ (by assumption)).mono ?_;rintro e w' ⟨rfl,rfl⟩)|(refine(Q4 _ (show _=true by decide)).mono ?_;rintro e w' ⟨rfl,rfl⟩)|(refine(Q4 _ (show _=false by decide)).mono ?_;rintro e w' ⟨rfl,rfl⟩))
         go_ret
         exact⟨by simp[Qk],HB.o⟩
        |false=>
         by_cases hn:new=0
         ·subst hn
          go_enter Tryz.func73,Tryz.ntmps73
          go_wp2_with (go_at_call 120;first|(refine(Q4 _ (by assumption)).mono ?_;rintro e w' ⟨rfl,rfl⟩)|(refine(Q4 _ (show _=true by decide)).mono ?_;rintro e w' ⟨rfl,rfl⟩)|(refine(Q4 _ (show _=false by decide)).mono ?_;rintro e w' ⟨rfl,rfl⟩))
          go_ret
          exact⟨by simp[Qk],HB.o⟩
         ·have hb:=Ql hn
          go_enter Tryz.func73,Tryz.ntmps73
          go_wp2_with (go_at_call 120;first|(refine(Q4 _ (by assumption)).mono ?_;rintro e w' ⟨rfl,rfl⟩)|(refine(Q4 _ (show _=true by decide)).mono ?_;rintro e w' ⟨rfl,rfl⟩)|(refine(Q4 _ (show _=false by decide)).mono ?_;rintro e w' ⟨rfl,rfl⟩))
          go_ret
          exact⟨by simp[Qk,hn],HB.o⟩
       ·have hb:=Ql ho
        go_enter Tryz.func73,Tryz.ntmps73
        go_wp2_with (go_at_call 120;first|(refine(Q4 _ (by assumption)).mono ?_;rintro e w' ⟨rfl,rfl⟩)|(refine(Q4 _ (show _=true by decide)).mono ?_;rintro e w' ⟨rfl,rfl⟩)|(refine(Q4 _ (show _=false by decide)).mono ?_;rintro e w' ⟨rfl,rfl⟩))
        go_ret
        exact⟨by simp[Qk,ho],HB.o⟩
   ·have e3:=Ql ze3
    go_enter Tryz.func73,Tryz.ntmps73
    go_wp2_with (go_at_call 120;first|(refine(Q4 _ (by assumption)).mono ?_;rintro e w' ⟨rfl,rfl⟩)|(refine(Q4 _ (show _=true by decide)).mono ?_;rintro e w' ⟨rfl,rfl⟩)|(refine(Q4 _ (show _=false by decide)).mono ?_;rintro e w' ⟨rfl,rfl⟩))
    go_ret
    exact⟨by simp[ze3],HB.o⟩
  ·have e2:=Ql ze2
   go_enter Tryz.func73,Tryz.ntmps73
   go_wp2_with (go_at_call 120;first|(refine(Q4 _ (by assumption)).mono ?_;rintro e w' ⟨rfl,rfl⟩)|(refine(Q4 _ (show _=true by decide)).mono ?_;rintro e w' ⟨rfl,rfl⟩)|(refine(Q4 _ (show _=false by decide)).mono ?_;rintro e w' ⟨rfl,rfl⟩))
   go_ret
   exact⟨by simp[ze2],HB.o⟩
 ·have e1:=Ql ze1
  go_enter Tryz.func73,Tryz.ntmps73
  go_wp2_with (go_at_call 120;first|(refine(Q4 _ (by assumption)).mono ?_;rintro e w' ⟨rfl,rfl⟩)|(refine(Q4 _ (show _=true by decide)).mono ?_;rintro e w' ⟨rfl,rfl⟩)|(refine(Q4 _ (show _=false by decide)).mono ?_;rintro e w' ⟨rfl,rfl⟩))
  go_ret
  exact⟨by simp[ze1],HB.o⟩
end Go.Proofs.YtoapihepdallbaaGreatDoor
