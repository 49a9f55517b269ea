/- RecoverWork of both: the same answer, for all arguments. No statement. -/
import Derived.Test.YtfeokehfhaimkaaIntGiveEv
import Derived.Test.YtfeokehfhaimkaaIntGood
import Derived.Test.YtfeokehfhaimkaaG4
import Derived.Test.YtfeokehfhaimkaaG7
import Derived.Test.YtfeokehfhaimkaaG5
open Bool renaming false_ne_true→db
open List renaming length_cons→aaa,length_nil→aan
open Nat renaming zero_le→bp
open Option.some renaming inj→Gn
namespace Go.Proofs.Ytfeokehfhaimkaa.Q
open Go.RowKit Go.Proofs.YtfeokehfhaimkaaW.PrintWords Go.Proofs.Ytfeokehfhaimkaa.G
set_option linter.unusedVariables false
set_option linter.unusedSimpArgs false
abbrev W6:=Int×List X_×List X_×Int×List It×Bool
abbrev zW:W6:=(0,[],[],0,[],false)
def isI(x:It):Bool:=x.f0==1
def xW(l:List It):List X_:=(l.filter isI).map (fun x=>x.f2)
theorem exts_cons(x:It)(t:List It):xW (x::t)=if x.f0=1 then x.f2::xW t else xW t:=by
 unfold xW;rw[List.filter_cons]
 by_cases c:x.f0=1
 ·rw[if_pos c,if_pos (by simp[isI,c])];rfl
 ·rw[if_neg c,if_neg (by simp[isI,c])]
theorem runI_exts {n:Int}{fp:List X_}:∀ (l out o:List It),gU n fp out l=some o→o.map (fun x=>x.f2)=out.map (fun x=>x.f2)++xW l
 |[],out,o,h=>by rw[gU]at h;obtain rfl:=Gn h;simp[xW]
 |x::t,out,o,h=>by
  rw[gU]at h
  cases e:fP n fp out x with
  |none=>rw[e]at h;cases h
  |some o1=>
   rw[e]at h;have ih:=runI_exts t o1 o h;rw[ih,exts_cons];unfold fP at e
   by_cases c:x.f0=1
   ·rw[if_pos c]at e
    rw[if_pos c]
    split at e
    ·split at e
     ·cases e
     ·split at e
      ·cases e
      ·obtain rfl:=Gn e
       simp
    ·cases e
   ·rw[if_neg c]at e
    rw[if_neg c]
    split at e
    ·rename_i hc
     obtain rfl:=Gn e
     congr 1
     rw[List.map_set];apply List.ext_getElem
     ·simp
     ·intro i h1 h2
      by_cases q:i=(x.f1-1).toNat
      ·subst q
       rw[List.getElem_set_self,List.getElem_map,sX _ _ _ (by simpa using h2)]
      ·rw[List.getElem_set_ne (fun z=>q z.symm)]
    ·cases e
noncomputable def gv(n:Int)(l m:List X_)(x:X_):F4:=by
 classical
 exact if h:l.length≤1048576 then Classical.choose (giveRoom_both n l m x h)else zF
theorem Nv(n:Int)(l m:List X_)(x:X_)(h:l.length≤1048576):Ev (fun k=>dC.f k n l m x.f0 x.f1) (gv n l m x)∧Ev (fun k=>qr.f k n l m x.f0 x.f1) (gv n l m x)∧(gv n l m x).2.1.length≤60∧(gv n l m x).2.2.1.length≤60∧((gv n l m x).2.2.2=true→ff [] (gv n l m x).2.1=(gv n l m x).2.2.1):=by
 unfold gv;rw[dif_pos h];exact Classical.choose_spec (giveRoom_both n l m x h)
noncomputable def pO(n:Int)(l m:List X_):List X_→W6
 |[]=>(n,l,m,1,[],true)
 |x::t=>if(gv n l m x).2.2.2=true then pO (gv n l m x).1 (gv n l m x).2.1 (gv n l m x).2.2.1 t else zW
theorem allBack_len:∀ (t:List X_) (n:Int) (l m:List X_),l.length≤1048576→m.length≤1048576→(pO n l m t).2.1.length≤1048576∧(pO n l m t).2.2.1.length≤1048576∧(pO n l m t).2.2.2.2.1=[]
 |[],n,l,m,h1,h2=>⟨h1,h2,rfl⟩
 |x::t,n,l,m,h1,h2=>by
  rw[pO];have:=Nv n l m x h1
  by_cases c:(gv n l m x).2.2.2=true
  ·rw[if_pos c]
   exact allBack_len t _ _ _ (by omega) (by omega)
  ·rw[if_neg c]
   exact⟨bp _,bp _,rfl⟩
theorem Uu:∀ (t:List X_) (n:Int) (l m:List X_),l.length≤60→m.length≤60→(pO n l m t).2.1.length≤60∧(pO n l m t).2.2.1.length≤60
 |[],n,l,m,h1,h2=>⟨h1,h2⟩
 |x::t,n,l,m,h1,h2=>by
  rw[pO];have:=Nv n l m x (by omega)
  by_cases c:(gv n l m x).2.2.2=true
  ·rw[if_pos c]
   exact Uu t _ _ _ (by omega) (by omega)
  ·rw[if_neg c]
   exact⟨bp _,bp _⟩
theorem allBack_sort:∀ (t:List X_) (n:Int) (l m:List X_),l.length≤1048576→ff [] l=m→(pO n l m t).2.2.2.2.2=true→ff [] (pO n l m t).2.1=(pO n l m t).2.2.1
 |[],n,l,m,h1,h2,_=>h2
 |x::t,n,l,m,h1,h2,h3=>by
  rw[pO]at h3⊢;have:=Nv n l m x h1
  by_cases c:(gv n l m x).2.2.2=true
  ·rw[if_pos c]at h3⊢
   exact allBack_sort t _ _ _ (by omega) (this.2.2.2.2 c) h3
  ·rw[if_neg c]at h3
   cases h3
theorem YC(l:List It)(hl:l.length≤1048576):∀ (t:List It) (j:Nat) (n:Int) (fp m:List X_),l.drop j=t→j+t.length=l.length→fp.length≤1048576→
 Ev (fun k=>jw.l0 k l (l.length:Int) (j:Int) n fp m) (pO n fp m (xW t))
 |[],j,n,fp,m,hd,hj,hf=>by
  rw[aan]at hj;refine Ev.step (fun k=>by rw[jw.l0]) ?_;exact Ev.neg (by omega) (Ev.now' rfl)
 |x::t,j,n,fp,m,hd,hj,hf=>by
  rw[aaa]at hj
  have hlt:j<l.length:=by omega
  rw[oI l j z66 hlt]at hd
  injection hd with ho ht
  refine Ev.step (fun k=>by rw[jw.l0]) (Ev.pos (by omega) (Ev.pos (by omega) (Ev.pos (by omega) ?_)));rw[uT,ho,show wrap64 ((j:Int)+1)=((j+1:Nat):Int) by rw[bv (by omega) (by omega)];rfl,exts_cons]
  by_cases c:x.f0=1
  ·rw[if_pos c,pO]
   obtain⟨g1,_,g3,_⟩:=Nv n fp m x.f2 hf;refine Ev.pos c (Ev.bind' _ g1 ?_)
   by_cases d:(gv n fp m x.f2).2.2.2=true
   ·rw[if_pos d]
    exact Ev.pos d (YC l hl t (j+1) _ _ _ ht (by omega) (by omega))
   ·rw[if_neg d]
    exact Ev.neg d (Ev.now _)
  ·rw[if_neg c]
   exact Ev.neg c (YC l hl t (j+1) n fp m ht (by omega) hf)
theorem back_i(l:List It)(hl:l.length≤1048576):∀ (t:List It) (j:Nat) (n:Int) (fp m:List X_),l.drop j=t→j+t.length=l.length→fp.length≤1048576→
 Ev (fun k=>fb.l0 k l (l.length:Int) (j:Int) n fp m) (pO n fp m (t.map (fun x=>x.f2)))
 |[],j,n,fp,m,hd,hj,hf=>by
  rw[aan]at hj;refine Ev.step (fun k=>by rw[fb.l0]) ?_;exact Ev.neg (by omega) (Ev.now' rfl)
 |x::t,j,n,fp,m,hd,hj,hf=>by
  rw[aaa]at hj
  have hlt:j<l.length:=by omega
  rw[oI l j z66 hlt]at hd
  injection hd with ho ht
  refine Ev.step (fun k=>by rw[fb.l0]) (Ev.pos (by omega) (Ev.pos (by omega) (Ev.pos (by omega) ?_)));rw[uT,ho,show wrap64 ((j:Int)+1)=((j+1:Nat):Int) by rw[bv (by omega) (by omega)];rfl,List.map_cons,pO];obtain⟨_,g2,g3,_⟩:=Nv n fp m x.f2 hf;refine Ev.bind' _ g2 ?_
  by_cases d:(gv n fp m x.f2).2.2.2=true
  ·rw[if_pos d]
   exact Ev.pos d (back_i l hl t (j+1) _ _ _ ht (by omega) (by omega))
  ·rw[if_neg d]
   exact Ev.neg d (Ev.now _)
theorem intents_any(n:Int)(fp m:List X_)(l:List It)(hfp:fp.length≤1048576)(hl:l.length≤1048576):
 ∃o:Option (List It),Ev (fun k=>d9.f k n fp m l) (su o)∧
  (Ev (fun k=>fc.f k n fp m) true→∃p:Int×Bool,Ev (fun k=>br.f k n fp m l) p∧p.2=o.isSome)∧
  (∀out,o=some out→out.length≤30∧l.length≤30∧out.map (fun x=>x.f2)=xW l):=by
 obtain⟨g,e1,e2,hg⟩:=Dj n fp m hfp
 have badj:Ev (fun k=>d9.j0 k l true n fp m) (su none):=
  Ev.step (fun k=>by rw[d9.j0]) (Ev.pos rfl (Ev.now' (show(([]:List It),false)=su none from rfl)))
 unfold d9.f
 cases g with
 |false=>
  exact⟨none,Ev.bind' _ e2 (Ev.neg db badj),fun h=>(by have:=Ev.uniq e1 h;cases this),fun _ h=>by cases h⟩
 |true=>
  obtain⟨n1,n2,f60⟩:=hg rfl
  have hs:Ev (fun k=>br.f k n fp m l) (xV (decide ((l.length:Int)≤30)) (gU n fp [] l)):=by
   unfold br.f;exact scan_s n fp m l n1 n2 f60 hl l.length 0 [] rfl (bp _) (bp _) Inv.start
  by_cases c:(l.length:Int)≤30
  ·have hi:Ev (fun k=>d9.l0 k [] l (l.length:Int) 0 n fp m) (su (gU n fp [] l)):=
    scan_i n fp m l n1 n2 f60 (by omega) l.length 0 [] rfl (bp _) (bp _)
   have hd:decide ((l.length:Int)>30)=false:=decide_eq_false (by omega);refine⟨gU n fp [] l,Ev.bind' _ e2 (Ev.pos rfl (by rw[hd];exact Ev.step (fun k=>by rw[d9.j0]) (Ev.neg db hi))),fun _=>⟨_,hs, ?_⟩,fun out h=> ?_⟩
   ·rw[decide_eq_true c]
    cases gU n fp [] l<;>rfl
   ·have h1:=Un l [] out h
    rw[aan]at h1;exact⟨by omega,by omega,by rw[runI_exts l [] out h];simp⟩
  ·have hd:decide ((l.length:Int)>30)=true:=decide_eq_true (by omega)
   refine⟨none,Ev.bind' _ e2 (Ev.pos rfl (by rw[hd];exact badj)),fun _=>⟨_,hs, ?_⟩,fun _ h=>by cases h⟩;rw[decide_eq_false c]
   cases gU n fp [] l<;>rfl
theorem gw_good(n:Int)(fp m:List X_)(nxt:Int)(l:List It)(hfp:fp.length≤1048576)(h:Ev (fun k=>eM.f k n fp m nxt l) true):Ev (fun k=>fc.f k n fp m) true:=by
 obtain⟨g,e1,_,_⟩:=Dj n fp m hfp
 cases g with
 |true=>exact e1
 |false=>
  have h2:Ev (fun k=>eM.f k n fp m nxt l) false:=by
   unfold eM.f;exact Ev.bind' _ e1 (Ev.neg db (Ev.now _))
  have:=Ev.uniq h h2
  cases this
theorem recover_both(n:Int)(fp m:List X_)(nxt:Int)(l l1:List It)(hfp:fp.length≤1048576)(hm:m.length≤1048576)(hl:l.length≤1048576)(hl1:l1.length≤1048576):
 ∃r:W6,Ev (fun k=>jw.f k n fp m nxt l l1) r∧Ev (fun k=>fb.f k n fp m nxt l l1) r∧r.2.1.length≤60∧r.2.2.1.length≤60∧r.2.2.2.2.1=[]∧(r.2.2.2.2.2=true→ff [] r.2.1=r.2.2.1):=by
 obtain⟨o,h1,h2,h3⟩:=intents_any n fp m l1 hfp hl1;obtain⟨g,gs,gi⟩:=QI n fp m nxt l hfp hm hl
 have badj:∀x,Ev (fun k=>fb.j0 k x true n fp m nxt l) zW:=fun x=>Ev.step (fun k=>by rw[fb.j0]) (Ev.pos rfl (Ev.now _))
 unfold jw.f fb.f
 cases g with
 |false=>
  refine⟨zW,Ev.bind' _ gs (Ev.neg db (Ev.now _)),Ev.bind' _ h1 ?_,bp _,bp _,rfl,fun h=>(by cases h)⟩
  cases o with
  |none=>exact Ev.neg db (badj _)
  |some out=>exact Ev.pos rfl (Ev.bind' _ gi (badj _))
 |true=>
  have hgf:=gw_good n fp m nxt l hfp gs;obtain⟨p,hp,hp2⟩:=h2 hgf;obtain⟨n1,n2,Dd,_,hso⟩:=gf_ok n fp m hfp hgf
  have hm60:m.length≤60:=by rw[←hso,Bs,aan];omega
  cases o with
  |none=>
   have hp3:p.2=false:=hp2;exact⟨zW,Ev.bind' _ gs (Ev.pos rfl (Ev.bind' _ hp (Ev.neg (by rw[hp3];exact db) (Ev.now _)))),Ev.bind' _ h1 (Ev.neg db (badj _)),bp _,bp _,rfl,fun h=>(by cases h)⟩
  |some out=>
   have hp3:p.2=true:=hp2;obtain⟨o30,l30,hex⟩:=h3 out rfl
   have h5:Ev (fun k=>j8.f k n fp) (n,fp,m):=by
    unfold j8.f;exact Ev.dq [] rfl (Ev.pos (by rw[aan];omega) (Ev.bind' _ (Gz fp hfp) (Ev.now' (by rw[hso,List.nil_append]))))
   have ho:kZ.f n fp m=some (n,fp,m):=by
    unfold kZ.f mq.f;rw[if_pos (by omega),Option.bind_some,if_pos (by omega),Option.bind_some]
   have b1:=YC l1 hl1 l1 0 n fp m rfl (by omega) hfp;have b2:=back_i out (by omega) out 0 n fp m rfl (by omega) hfp;rw[hex]at b2;obtain⟨q1,q2,q3⟩:=allBack_len (xW l1) n fp m hfp hm
   have hj:Ev (fun k=>fb.j0 k out (!true) n fp m nxt l) (pO n fp m (xW l1)):=by
    refine Ev.step (fun k=>by rw[fb.j0]) ?_;exact Ev.neg db (Ev.dq _ ho b2)
   refine⟨pO n fp m (xW l1),Ev.bind' _ gs (Ev.pos rfl (Ev.bind' _ hp (Ev.pos hp3 (Ev.bind' _ h5 b1)))),Ev.bind' _ h1 (Ev.pos rfl (Ev.bind' _ gi hj)),(Uu _ n fp m Dd hm60).1,(Uu _ n fp m Dd hm60).2,q3,allBack_sort _ n fp m hfp hso⟩
end Go.Proofs.Ytfeokehfhaimkaa.Q
