/- PlayWork of both: the same steps, the same answer. No statement. -/
import Derived.Test.YtfeokehfhaimkaaPlayInv
open List renaming length_cons→aaa
open Option renaming bind_some→Gm
namespace Go.Proofs.Ytfeokehfhaimkaa.Q
open Go.RowKit Go.Proofs.YtfeokehfhaimkaaW.PrintWords Go.Proofs.Ytfeokehfhaimkaa.G
set_option linter.unusedVariables false
set_option linter.unusedSimpArgs false
theorem Bt:∀ (t:List St) (n:Int) (fp m:List X_) (nx:Int) (l:List It),J fp m l→
 ∃ (R0:Int) (R1 R2:List X_) (R3:Int) (R4:List It) (ds:List Bool),lB R0 R1 R2 R3 R4 n fp m nx l t ds∧lC R0 R1 R2 R3 R4 n fp m nx l t ds∧J R1 R2 R4∧ds.length=t.length
 |[],n,fp,m,nx,l,H=>⟨n,fp,m,nx,l,[],.done,.done,H,rfl⟩
 |x::t,n,fp,m,nx,l,H=>by
  have ha:=H.a;have hb:=H.b;have hc:=H.c
  by_cases c1:x.f0=1
  ·obtain⟨⟨n',fp',m',nx',l',id,b⟩,hs,hi,_⟩:=promise_both n fp m nx l x.f1.f0 x.f1.f1 (by omega) (by omega) (by omega)
   obtain⟨ks,hs⟩:=Ev.at hs;obtain⟨ki,hi⟩:=Ev.at hi
   cases b with
   |true=>
    obtain⟨R0,R1,R2,R3,R4,ds,s,i,HJ,hl⟩:=Bt t n' fp' m' nx' l' (promise_J ki _ _ _ _ _ _ _ _ _ _ _ _ _ H hi);exact⟨R0,R1,R2,R3,R4,true::ds,.promise c1 hs (fun _=>s) (fun h=>(by cases h)),.promise c1 hi (fun _=>i) (fun h=>(by cases h)),HJ,by rw[aaa,aaa,hl]⟩
   |false=>
    obtain⟨R0,R1,R2,R3,R4,ds,s,i,HJ,hl⟩:=Bt t n fp m nx l H;exact⟨R0,R1,R2,R3,R4,false::ds,.promise c1 hs (fun h=>(by cases h)) (fun _=>s),.promise c1 hi (fun h=>(by cases h)) (fun _=>i),HJ,by rw[aaa,aaa,hl]⟩
  ·by_cases c2:x.f0=2
   ·obtain⟨⟨n',fp',m',nx',l',b⟩,hs,hi,_⟩:=workOn_both n fp m nx l x.f2 x.f3 (by omega) (by omega) (by omega)
    obtain⟨ks,hs⟩:=Ev.at hs;obtain⟨ki,hi⟩:=Ev.at hi
    cases b with
    |true=>
     obtain⟨R0,R1,R2,R3,R4,ds,s,i,HJ,hl⟩:=Bt t n' fp' m' nx' l' (workOn_J ki _ _ _ _ _ _ _ _ _ _ _ _ H hi);exact⟨R0,R1,R2,R3,R4,true::ds,.work c2 hs (fun _=>s) (fun h=>(by cases h)),.work c2 hi (fun _=>i) (fun h=>(by cases h)),HJ,by rw[aaa,aaa,hl]⟩
    |false=>
     obtain⟨R0,R1,R2,R3,R4,ds,s,i,HJ,hl⟩:=Bt t n fp m nx l H;exact⟨R0,R1,R2,R3,R4,false::ds,.work c2 hs (fun h=>(by cases h)) (fun _=>s),.work c2 hi (fun h=>(by cases h)) (fun _=>i),HJ,by rw[aaa,aaa,hl]⟩
   ·by_cases c3:x.f0=3
    ·obtain⟨⟨n',fp',m',nx',l',b⟩,hs,hi,q1,q2,q3,q4⟩:=recover_both n fp m nx l l (by omega) (by omega) (by omega) (by omega)
     obtain⟨ks,hs⟩:=Ev.at hs;obtain⟨ki,hi⟩:=Ev.at hi
     cases b with
     |true=>
      have q1':fp'.length≤60:=q1;have q2':m'.length≤60:=q2;have q3':l'=[]:=q3;obtain⟨R0,R1,R2,R3,R4,ds,s,i,HJ,hl⟩:=Bt t n' fp' m' nx' l' ⟨by omega,by omega,by rw[q3'];exact Nat.zero_le _,q4 rfl⟩;exact⟨R0,R1,R2,R3,R4,true::ds,.finish c3 hs (fun _=>s) (fun h=>(by cases h)),.finish c3 hi (fun _=>i) (fun h=>(by cases h)),HJ,by rw[aaa,aaa,hl]⟩
     |false=>
      obtain⟨R0,R1,R2,R3,R4,ds,s,i,HJ,hl⟩:=Bt t n fp m nx l H;exact⟨R0,R1,R2,R3,R4,false::ds,.finish c3 hs (fun h=>(by cases h)) (fun _=>s),.finish c3 hi (fun h=>(by cases h)) (fun _=>i),HJ,by rw[aaa,aaa,hl]⟩
    ·obtain⟨R0,R1,R2,R3,R4,ds,s,i,HJ,hl⟩:=Bt t n fp m nx l H
     exact⟨R0,R1,R2,R3,R4,false::ds,.other c1 c2 c3 s,.other c1 c2 c3 i,HJ,by rw[aaa,aaa,hl]⟩
theorem newWork_of(n:Int):(∃k,pF.f k n=some (0,[],[],0,[],false)∧tI.f n=some (0,[],[],0,[],false))∨(∃k,pF.f k n=some (n,[],[],1,[],true)∧tI.f n=some (n,[],[],1,[],true)):=by
 have hin:∀x lo hi:Int,lr.f x lo hi=some (decide (lo≤x∧x≤hi)):=fun x lo hi=>by
  unfold lr.f
  by_cases h:x≥lo
  ·rw[if_pos h];simp[show lo≤x from h]
  ·rw[if_neg h];simp[show¬lo≤x from h]
 have hwi:∀x lo hi:Int,jH.f x lo hi=some (decide (lo≤x∧x≤hi)):=fun x lo hi=>by
  unfold jH.f
  by_cases h:x≥lo
  ·rw[if_pos h];simp[show lo≤x from h]
  ·rw[if_neg h];simp[show¬lo≤x from h]
 have hfs:Ev (fun k=>j8.f k n ([]:List X_)) (n,[],[]):=by
  unfold j8.f dA.f;simp only[Gm];refine Ev.pos (by simp) (Ev.bind' ([]:List X_) (Ev.step (fun k=>by rw[dA.l0]) (Ev.neg (by simp) (Ev.now _))) (Ev.now _))
 have hfi:xw.f n ([]:List X_)=some (n,[],[]):=by
  have e1:tG.f ([]:List X_)=some []:=by
   unfold tG.f;rw[if_pos (by simp)]
   simp
  unfold xw.f mq.f;rw[if_pos (by simp),Gm,e1]
  rfl
 by_cases c1:1≤n∧n≤400
 ·right
  have h1:Ev (fun k=>pF.f k n) (n,[],[],1,[],true):=by
   unfold pF.f;exact Ev.dq _ (hin _ _ _) (Ev.pos (by simpa using c1) (Ev.bind' _ hfs (Ev.now _)))
  obtain⟨k,h1⟩:=Ev.at h1;refine⟨k,h1, ?_⟩;unfold tI.f;rw[hwi,Gm,if_pos (by simpa using c1),hfi,Gm]
 ·left
  have h1:Ev (fun k=>pF.f k n) (0,[],[],0,[],false):=by
   unfold pF.f;exact Ev.dq _ (hin _ _ _) (Ev.neg (by simpa using c1) (Ev.now _))
  obtain⟨k,h1⟩:=Ev.at h1;refine⟨k,h1, ?_⟩;unfold tI.f;rw[hwi,Gm,if_neg (by simpa using c1)]
end Go.Proofs.Ytfeokehfhaimkaa.Q
