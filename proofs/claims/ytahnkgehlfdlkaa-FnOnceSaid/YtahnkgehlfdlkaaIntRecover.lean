/- RecoverWork of both: the same answer, for all arguments. No statement. -/
import Derived.Test.YtahnkgehlfdlkaaIntGiveEv
import Derived.Test.YtahnkgehlfdlkaaIntGood
import Derived.Test.YtahnkgehlfdlkaaG3
import Derived.Test.YtahnkgehlfdlkaaG8
import Derived.Test.YtahnkgehlfdlkaaG7
open Bool renaming false_ne_true→eI
open List renaming length_nil→aar,length_cons→aaQ
open Nat renaming zero_le→pu
open Option.some renaming inj→Ok
namespace Go.Proofs.Ytahnkgehlfdlkaa.Q
open Go.RowKit Go.Proofs.YtahnkgehlfdlkaaW.PrintWords Go.Proofs.Ytahnkgehlfdlkaa.G
set_option linter.unusedVariables false
set_option linter.unusedSimpArgs false
abbrev W6:=Int×List X_×List X_×Int×List It×Bool
abbrev zW:W6:=(0,[],[],0,[],false)
def lF(x:It):Bool:=x.f0==1
def gp(l:List It):List X_:=(l.filter lF).map (fun x=>x.f2)
theorem exts_cons(x:It)(t:List It):gp (x::t)=if x.f0=1 then x.f2::gp t else gp t:=by
 unfold gp;rw[List.filter_cons]
 by_cases c:x.f0=1
 ·rw[if_pos c,if_pos (by simp[lF,c])];rfl
 ·rw[if_neg c,if_neg (by simp[lF,c])]
theorem Tc {n:Int}{fp:List X_}:∀ (l out o:List It),gC n fp out l=some o→o.map (fun x=>x.f2)=out.map (fun x=>x.f2)++gp l
 |[],out,o,h=>by rw[gC]at h;obtain rfl:=Ok h;simp[gp]
 |x::t,out,o,h=>by
  rw[gC]at h
  cases e:gx n fp out x with
  |none=>rw[e]at h;cases h
  |some o1=>
   rw[e]at h;have ih:=Tc t o1 o h;rw[ih,exts_cons];unfold gx at e
   by_cases c:x.f0=1
   ·rw[if_pos c]at e
    rw[if_pos c]
    split at e
    ·split at e
     ·cases e
     ·split at e
      ·cases e
      ·obtain rfl:=Ok e
       simp
    ·cases e
   ·rw[if_neg c]at e
    rw[if_neg c]
    split at e
    ·rename_i hc
     obtain rfl:=Ok e
     congr 1
     rw[List.map_set];apply List.ext_getElem
     ·simp
     ·intro i h1 h2
      by_cases q:i=(x.f1-1).toNat
      ·subst q
       rw[List.getElem_set_self,List.getElem_map,vK _ _ _ (by simpa using h2)]
      ·rw[List.getElem_set_ne (fun z=>q z.symm)]
    ·cases e
noncomputable def gv(n:Int)(l m:List X_)(x:X_):F4:=by
 classical
 exact if h:l.length≤1048576 then Classical.choose (giveRoom_both n l m x h)else zF
theorem Gd(n:Int)(l m:List X_)(x:X_)(h:l.length≤1048576):Ev (fun k=>d8.f k n l m x.f0 x.f1) (gv n l m x)∧Ev (fun k=>qc.f k n l m x.f0 x.f1) (gv n l m x)∧(gv n l m x).2.1.length≤60∧(gv n l m x).2.2.1.length≤60∧((gv n l m x).2.2.2=true→fO [] (gv n l m x).2.1=(gv n l m x).2.2.1):=by
 unfold gv;rw[dif_pos h];exact Classical.choose_spec (giveRoom_both n l m x h)
noncomputable def km(n:Int)(l m:List X_):List X_→W6
 |[]=>(n,l,m,1,[],true)
 |x::t=>if(gv n l m x).2.2.2=true then km (gv n l m x).1 (gv n l m x).2.1 (gv n l m x).2.2.1 t else zW
theorem allBack_len:∀ (t:List X_) (n:Int) (l m:List X_),l.length≤1048576→m.length≤1048576→(km n l m t).2.1.length≤1048576∧(km n l m t).2.2.1.length≤1048576∧(km n l m t).2.2.2.2.1=[]
 |[],n,l,m,h1,h2=>⟨h1,h2,rfl⟩
 |x::t,n,l,m,h1,h2=>by
  rw[km];have:=Gd n l m x h1
  by_cases c:(gv n l m x).2.2.2=true
  ·rw[if_pos c]
   exact allBack_len t _ _ _ (by omega) (by omega)
  ·rw[if_neg c]
   exact⟨pu _,pu _,rfl⟩
theorem Sy:∀ (t:List X_) (n:Int) (l m:List X_),l.length≤60→m.length≤60→(km n l m t).2.1.length≤60∧(km n l m t).2.2.1.length≤60
 |[],n,l,m,h1,h2=>⟨h1,h2⟩
 |x::t,n,l,m,h1,h2=>by
  rw[km];have:=Gd n l m x (by omega)
  by_cases c:(gv n l m x).2.2.2=true
  ·rw[if_pos c]
   exact Sy t _ _ _ (by omega) (by omega)
  ·rw[if_neg c]
   exact⟨pu _,pu _⟩
theorem allBack_sort:∀ (t:List X_) (n:Int) (l m:List X_),l.length≤1048576→fO [] l=m→(km n l m t).2.2.2.2.2=true→fO [] (km n l m t).2.1=(km n l m t).2.2.1
 |[],n,l,m,h1,h2,_=>h2
 |x::t,n,l,m,h1,h2,h3=>by
  rw[km]at h3⊢;have:=Gd n l m x h1
  by_cases c:(gv n l m x).2.2.2=true
  ·rw[if_pos c]at h3⊢
   exact allBack_sort t _ _ _ (by omega) (this.2.2.2.2 c) h3
  ·rw[if_neg c]at h3
   cases h3
theorem QM(l:List It)(hl:l.length≤1048576):∀ (t:List It) (j:Nat) (n:Int) (fp m:List X_),l.drop j=t→j+t.length=l.length→fp.length≤1048576→
 Ev (fun k=>gz.l0 k l (l.length:Int) (j:Int) n fp m) (km n fp m (gp t))
 |[],j,n,fp,m,hd,hj,hf=>by
  rw[aar]at hj;refine Ev.step (fun k=>by rw[gz.l0]) ?_;exact Ev.neg (by omega) (Ev.now' rfl)
 |x::t,j,n,fp,m,hd,hj,hf=>by
  rw[aaQ]at hj
  have hlt:j<l.length:=by omega
  rw[oJ l j cr hlt]at hd
  injection hd with ho ht
  refine Ev.step (fun k=>by rw[gz.l0]) (Ev.pos (by omega) (Ev.pos (by omega) (Ev.pos (by omega) ?_)));rw[ua,ho,show wrap64 ((j:Int)+1)=((j+1:Nat):Int) by rw[dO (by omega) (by omega)];rfl,exts_cons]
  by_cases c:x.f0=1
  ·rw[if_pos c,km]
   obtain⟨g1,_,g3,_⟩:=Gd n fp m x.f2 hf;refine Ev.pos c (Ev.bind' _ g1 ?_)
   by_cases d:(gv n fp m x.f2).2.2.2=true
   ·rw[if_pos d]
    exact Ev.pos d (QM l hl t (j+1) _ _ _ ht (by omega) (by omega))
   ·rw[if_neg d]
    exact Ev.neg d (Ev.now _)
  ·rw[if_neg c]
   exact Ev.neg c (QM l hl t (j+1) n fp m ht (by omega) hf)
theorem Vw(l:List It)(hl:l.length≤1048576):∀ (t:List It) (j:Nat) (n:Int) (fp m:List X_),l.drop j=t→j+t.length=l.length→fp.length≤1048576→
 Ev (fun k=>f8.l0 k l (l.length:Int) (j:Int) n fp m) (km n fp m (t.map (fun x=>x.f2)))
 |[],j,n,fp,m,hd,hj,hf=>by
  rw[aar]at hj;refine Ev.step (fun k=>by rw[f8.l0]) ?_;exact Ev.neg (by omega) (Ev.now' rfl)
 |x::t,j,n,fp,m,hd,hj,hf=>by
  rw[aaQ]at hj
  have hlt:j<l.length:=by omega
  rw[oJ l j cr hlt]at hd
  injection hd with ho ht
  refine Ev.step (fun k=>by rw[f8.l0]) (Ev.pos (by omega) (Ev.pos (by omega) (Ev.pos (by omega) ?_)));rw[ua,ho,show wrap64 ((j:Int)+1)=((j+1:Nat):Int) by rw[dO (by omega) (by omega)];rfl,List.map_cons,km];obtain⟨_,g2,g3,_⟩:=Gd n fp m x.f2 hf;refine Ev.bind' _ g2 ?_
  by_cases d:(gv n fp m x.f2).2.2.2=true
  ·rw[if_pos d]
   exact Ev.pos d (Vw l hl t (j+1) _ _ _ ht (by omega) (by omega))
  ·rw[if_neg d]
   exact Ev.neg d (Ev.now _)
theorem Sr(n:Int)(fp m:List X_)(l:List It)(hfp:fp.length≤1048576)(hl:l.length≤1048576):
 ∃o:Option (List It),Ev (fun k=>dH.f k n fp m l) (qZ o)∧
  (Ev (fun k=>gb.f k n fp m) true→∃p:Int×Bool,Ev (fun k=>cD.f k n fp m l) p∧p.2=o.isSome)∧
  (∀out,o=some out→out.length≤30∧l.length≤30∧out.map (fun x=>x.f2)=gp l):=by
 obtain⟨g,e1,e2,hg⟩:=yZ n fp m hfp
 have badj:Ev (fun k=>dH.j0 k l true n fp m) (qZ none):=
  Ev.step (fun k=>by rw[dH.j0]) (Ev.pos rfl (Ev.now' (show(([]:List It),false)=qZ none from rfl)))
 unfold dH.f
 cases g with
 |false=>
  exact⟨none,Ev.bind' _ e2 (Ev.neg eI badj),fun h=>(by have:=Ev.uniq e1 h;cases this),fun _ h=>by cases h⟩
 |true=>
  obtain⟨n1,n2,f60⟩:=hg rfl
  have hs:Ev (fun k=>cD.f k n fp m l) (uW (decide ((l.length:Int)≤30)) (gC n fp [] l)):=by
   unfold cD.f;exact Vu n fp m l n1 n2 f60 hl l.length 0 [] rfl (pu _) (pu _) Inv.start
  by_cases c:(l.length:Int)≤30
  ·have hi:Ev (fun k=>dH.l0 k [] l (l.length:Int) 0 n fp m) (qZ (gC n fp [] l)):=
    Vv n fp m l n1 n2 f60 (by omega) l.length 0 [] rfl (pu _) (pu _)
   have hd:decide ((l.length:Int)>30)=false:=decide_eq_false (by omega);refine⟨gC n fp [] l,Ev.bind' _ e2 (Ev.pos rfl (by rw[hd];exact Ev.step (fun k=>by rw[dH.j0]) (Ev.neg eI hi))),fun _=>⟨_,hs, ?_⟩,fun out h=> ?_⟩
   ·rw[decide_eq_true c]
    cases gC n fp [] l<;>rfl
   ·have h1:=Nu l [] out h
    rw[aar]at h1;exact⟨by omega,by omega,by rw[Tc l [] out h];simp⟩
  ·have hd:decide ((l.length:Int)>30)=true:=decide_eq_true (by omega)
   refine⟨none,Ev.bind' _ e2 (Ev.pos rfl (by rw[hd];exact badj)),fun _=>⟨_,hs, ?_⟩,fun _ h=>by cases h⟩;rw[decide_eq_false c]
   cases gC n fp [] l<;>rfl
theorem gw_good(n:Int)(fp m:List X_)(nxt:Int)(l:List It)(hfp:fp.length≤1048576)(h:Ev (fun k=>f9.f k n fp m nxt l) true):Ev (fun k=>gb.f k n fp m) true:=by
 obtain⟨g,e1,_,_⟩:=yZ n fp m hfp
 cases g with
 |true=>exact e1
 |false=>
  have h2:Ev (fun k=>f9.f k n fp m nxt l) false:=by
   unfold f9.f;exact Ev.bind' _ e1 (Ev.neg eI (Ev.now _))
  have:=Ev.uniq h h2
  cases this
theorem recover_both(n:Int)(fp m:List X_)(nxt:Int)(l l1:List It)(hfp:fp.length≤1048576)(hm:m.length≤1048576)(hl:l.length≤1048576)(hl1:l1.length≤1048576):
 ∃r:W6,Ev (fun k=>gz.f k n fp m nxt l l1) r∧Ev (fun k=>f8.f k n fp m nxt l l1) r∧r.2.1.length≤60∧r.2.2.1.length≤60∧r.2.2.2.2.1=[]∧(r.2.2.2.2.2=true→fO [] r.2.1=r.2.2.1):=by
 obtain⟨o,h1,h2,h3⟩:=Sr n fp m l1 hfp hl1;obtain⟨g,gs,gi⟩:=Cg n fp m nxt l hfp hm hl
 have badj:∀x,Ev (fun k=>f8.j0 k x true n fp m nxt l) zW:=fun x=>Ev.step (fun k=>by rw[f8.j0]) (Ev.pos rfl (Ev.now _))
 unfold gz.f f8.f
 cases g with
 |false=>
  refine⟨zW,Ev.bind' _ gs (Ev.neg eI (Ev.now _)),Ev.bind' _ h1 ?_,pu _,pu _,rfl,fun h=>(by cases h)⟩
  cases o with
  |none=>exact Ev.neg eI (badj _)
  |some out=>exact Ev.pos rfl (Ev.bind' _ gi (badj _))
 |true=>
  have hgf:=gw_good n fp m nxt l hfp gs;obtain⟨p,hp,hp2⟩:=h2 hgf;obtain⟨n1,n2,sY,_,hso⟩:=Gb n fp m hfp hgf
  have hm60:m.length≤60:=by rw[←hso,wy,aar];omega
  cases o with
  |none=>
   have hp3:p.2=false:=hp2;exact⟨zW,Ev.bind' _ gs (Ev.pos rfl (Ev.bind' _ hp (Ev.neg (by rw[hp3];exact eI) (Ev.now _)))),Ev.bind' _ h1 (Ev.neg eI (badj _)),pu _,pu _,rfl,fun h=>(by cases h)⟩
  |some out=>
   have hp3:p.2=true:=hp2;obtain⟨o30,l30,hex⟩:=h3 out rfl
   have h5:Ev (fun k=>ip.f k n fp) (n,fp,m):=by
    unfold ip.f;exact Ev.ct [] rfl (Ev.pos (by rw[aar];omega) (Ev.bind' _ (xL fp hfp) (Ev.now' (by rw[hso,List.nil_append]))))
   have ho:pT.f n fp m=some (n,fp,m):=by
    unfold pT.f oE.f;rw[if_pos (by omega),Option.bind_some,if_pos (by omega),Option.bind_some]
   have b1:=QM l1 hl1 l1 0 n fp m rfl (by omega) hfp;have b2:=Vw out (by omega) out 0 n fp m rfl (by omega) hfp;rw[hex]at b2;obtain⟨q1,q2,q3⟩:=allBack_len (gp l1) n fp m hfp hm
   have hj:Ev (fun k=>f8.j0 k out (!true) n fp m nxt l) (km n fp m (gp l1)):=by
    refine Ev.step (fun k=>by rw[f8.j0]) ?_;exact Ev.neg eI (Ev.ct _ ho b2)
   refine⟨km n fp m (gp l1),Ev.bind' _ gs (Ev.pos rfl (Ev.bind' _ hp (Ev.pos hp3 (Ev.bind' _ h5 b1)))),Ev.bind' _ h1 (Ev.pos rfl (Ev.bind' _ gi hj)),(Sy _ n fp m sY hm60).1,(Sy _ n fp m sY hm60).2,q3,allBack_sort _ n fp m hfp hso⟩
end Go.Proofs.Ytahnkgehlfdlkaa.Q
