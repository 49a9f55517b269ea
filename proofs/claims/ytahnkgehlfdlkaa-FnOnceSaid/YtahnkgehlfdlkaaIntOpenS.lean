/- What is open of a state, as the reference sees it. -/
import Derived.Test.YtahnkgehlfdlkaaIntGood
import Derived.Test.YtahnkgehlfdlkaaG4
open List renaming length_append→oB,length_singleton→aan,drop_eq_nil_of_le→aaw,length_set→aaA,mem_singleton→aaS,append_assoc→aa2,filter_cons_of_pos→abj,filter_cons_of_neg→abk,getElem_map→abm,filterMap_cons_none→abx,mem_append→abB,filter_append→abO,getElem_set→abY
open Option.some renaming inj→Ok
namespace Go.Proofs.Ytahnkgehlfdlkaa.Q
open Go.RowKit Go.Proofs.YtahnkgehlfdlkaaW.PrintWords Go.Proofs.Ytahnkgehlfdlkaa.G
set_option linter.unusedVariables false
set_option linter.unusedSimpArgs false
def r9(x:It):Bool:=x.f0==1
structure AC(p out:List It):Prop where
 key:out.map (fun y=>(y.f0,y.f1,y.f2))=(p.filter r9).map (fun y=>(y.f0,y.f1,y.f2))
 ids:∀j:Nat,j<out.length→(out.getD j cr).f1=(j:Int)+1
 le:∀y∈out,y.f3≤y.f2.f1
 zero:∀x∈p,x.f0=1→x.f3=0
theorem AC.start:AC [] []:=⟨rfl,fun j h=>absurd h (Nat.not_lt_zero _),fun y h=>(by cases h),fun y h=>(by cases h)⟩
theorem AC.next {n:Int}{fp:List X_}{p out o:List It}{x:It}(H:AC p out)(h:gx n fp out x=some o):AC (p++[x]) o:=by
 unfold gx at h
 by_cases c:x.f0=1
 ·rw[if_pos c]at h
  by_cases d:x.f1=(out.length:Int)+1∧x.f3=0∧nG n x.f2
  ·rw[if_pos d]at h
   split at h
   ·cases h
   split at h
   ·cases h
   obtain rfl:=Ok h
   have ci:r9 x=true:=by simp[r9,c]
   refine⟨?_,fun j hj=> ?_,fun y hy=> ?_,fun y hy e=> ?_⟩
   ·rw[List.map_append,abO,List.map_append,H.key]
    simp[ci]
   ·rw[oB,aan]at hj
    rcases Nat.lt_or_ge j out.length with hlt|hge
    ·rw[Cf _ _ _ _ hlt];exact H.ids j hlt
    ·have ej:j=out.length:=by omega
     subst ej
     have:(out++[x]).getD out.length cr=x:=by simp
     rw[this];exact d.1
   ·rcases abB.1 hy with hy|hy
    ·exact H.le y hy
    ·rw[aaS.1 hy]
     have:=d.2.2.2.1
     omega
   ·rcases abB.1 hy with hy|hy
    ·exact H.zero y hy e
    ·rw[aaS.1 hy];exact d.2.1
  ·rw[if_neg d]at h
   cases h
 ·rw[if_neg c]at h
  split at h
  ·rename_i d
   obtain rfl:=Ok h;obtain⟨d0,d1,d2,d3,d4,d5,d6⟩:=d
   have hlt:(x.f1-1).toNat<out.length:=by omega
   have ci:r9 x=false:=by simp[r9,c]
   refine⟨?_,fun j hj=> ?_,fun y hy=> ?_,fun y hy e=> ?_⟩
   ·rw[abO,show [x].filter r9=[] by simp[ci],List.append_nil,←H.key,List.map_set]
    refine List.ext_getElem (by simp) fun i h1 h2=> ?_
    rw[abY]
    split
    ·rename_i hji
     subst hji;rw[abm,vK out _ _ hlt]
    ·rfl
   ·rw[aaA]at hj
    by_cases e:(x.f1-1).toNat=j
    ·subst e
     rw[Sk _ _ _ _ hj];exact H.ids _ hj
    ·rw[getD_set_ne _ _ _ _ _ (fun h=>e h.symm)]
     exact H.ids j hj
   ·obtain⟨i,hi,rfl⟩:=List.mem_iff_getElem.1 hy
    rw[aaA]at hi;rw[abY]
    split
    ·exact d6
    ·exact H.le _ (List.getElem_mem _)
   ·rcases abB.1 hy with hy|hy
    ·exact H.zero y hy e
    ·rw[aaS.1 hy]at e
     exact absurd e c
  ·cases h
theorem runI_inv {n:Int}{fp:List X_}:∀ (l p out o:List It),Inv p out→AC p out→gC n fp out l=some o→Inv (p++l) o∧AC (p++l) o
 |[],p,out,o,H,H2,h=>by
  rw[gC]at h;obtain rfl:=Ok h;rw[List.append_nil];exact⟨H,H2⟩
 |x::t,p,out,o,H,H2,h=>by
  rw[gC]at h
  cases e:gx n fp out x with
  |none=>rw[e]at h;cases h
  |some o1=>
   rw[e]at h;have:=runI_inv t (p++[x]) o1 o (H.next e) (H2.next e) h
   rwa [aa2,List.singleton_append]at this
def G6(l:List It)(x:It):It:=⟨x.f0,x.f1,x.f2,(look l x.f1).1⟩
theorem out_eq {l out:List It}(H:Inv l out)(H2:AC l out):out=(l.filter r9).map (G6 l):=by
 have hlen:out.length=(l.filter r9).length:=by
  have:=congrArg List.length H2.key
  simpa using this
 refine List.ext_getElem (by rw[List.length_map];exact hlen) fun j h1 h2=> ?_
 have hk:(out.map (fun y=>(y.f0,y.f1,y.f2)))[j]'(by simpa using h1)=((l.filter r9).map (fun y=>(y.f0,y.f1,y.f2)))[j]'(by rw[List.length_map,←hlen];exact h1):=by
  simp only[H2.key]
 rw[abm,abm]at hk;simp only[Prod.mk.injEq]at hk;obtain⟨k0,k1,k2⟩:=hk;have hid:=H2.ids j h1;have hon:=H.on j h1;rw[vK out j _ h1]at hid hon;rw[abm]
 have e:G6 l (l.filter r9)[j]=(⟨out[j].f0,out[j].f1,out[j].f2,out[j].f3⟩:It):=by
  unfold G6;rw[←k0,←k1,←k2,hid,hon]
 rw[e]
def wu(id:Int)(u:Int)(o:It):Int:=if o.f1=id then o.f3 else u
theorem look_upd(id:Int):∀ (l:List It) (s:Int×Int),(l.foldl (lk id) s).1=l.foldl (wu id) s.1
 |[],_=>rfl
 |x::t,s=>by
  rw[List.foldl_cons,List.foldl_cons,look_upd id t]
  congr 1
  unfold lk wu
  split<;>rfl
def kn(l:List It)(x:It):Option It:=if x.f0=1 then(if l.foldl (wu x.f1) x.f3<x.f2.f1 then some ⟨x.f0,x.f1,x.f2,l.foldl (wu x.f1) x.f3⟩else none)else none
theorem open_inner(l acc:List It)(j:Nat)(x:It)(r:List It)(hl:l.length≤1048576)
 :∀ (d i:Nat) (u:Int),l.length-i=d→i≤l.length→
 Ev (fun k=>g9.l1 k l acc l (l.length:Int) (j:Int) l (l.length:Int) (l.length:Int) x.f0 x.f1 x.f2.f0 x.f2.f1 ((l.drop i).foldl (wu x.f1) u)) r→
 Ev (fun k=>g9.l1 k l acc l (l.length:Int) (j:Int) l (l.length:Int) (i:Int) x.f0 x.f1 x.f2.f0 x.f2.f1 u) r:=by
 intro d
 induction d with
 |zero=>
  intro i u hd hi h;rw[aaw (by omega)]at h;rw[show i=l.length by omega];exact h
 |succ d ih=>
  intro i u hd hi h;rw[oJ l i cr (by omega),List.foldl_cons]at h;have h':=ih (i+1) (wu x.f1 u (l.getD i cr)) (by omega) (by omega) h;rw[show((i+1:Nat):Int)=wrap64 ((i:Int)+1) by rw[dO (by omega) (by omega)];rfl]at h';refine Ev.step (fun k=>by rw[g9.l1]) (Ev.pos (by omega) (Ev.pos (by omega) (Ev.pos (by omega) ?_)));rw[ua];unfold wu at h'
  by_cases c:(l.getD i cr).f1=x.f1
  ·rw[if_pos c]at h'
   exact Ev.pos c h'
  ·rw[if_neg c]at h'
   exact Ev.neg c h'
theorem open_s(l:List It)(hl:l.length≤1048576):∀ (d j:Nat) (acc:List It),l.length-j=d→j≤l.length→acc.length≤j→
 Ev (fun k=>g9.l0 k l acc l (l.length:Int) (j:Int)) (acc++(l.drop j).filterMap (kn l)):=by
 intro d
 induction d with
 |zero=>
  intro j acc hd hj ha;rw[aaw (by omega)];refine Ev.step (fun k=>by rw[g9.l0]) (Ev.neg ?_ (Ev.now' (show acc=acc++([]:List It).filterMap (kn l) by simp)))
  omega
 |succ d ih=>
  intro j acc hd hj ha;obtain⟨x,hx⟩:∃x,x=l.getD j cr:=⟨_,rfl⟩
  have hw:wrap64 ((j:Int)+1)=((j+1:Nat):Int):=by rw[dO (by omega) (by omega)];rfl
  rw[oJ l j cr (by omega),←hx];refine Ev.step (fun k=>by rw[g9.l0]) (Ev.pos (by omega) (Ev.pos (by omega) (Ev.pos (by omega) ?_)));rw[ua,←hx]
  by_cases c:x.f0=1
  ·refine Ev.pos c ?_
   have:=open_inner l acc j x (acc++(x::l.drop (j+1)).filterMap (kn l)) hl l.length 0 x.f3 (by omega) (Nat.zero_le _) (by
    rw[List.drop_zero];refine Ev.step (fun k=>by rw[g9.l1]) (Ev.neg (by omega) ?_)
    by_cases e:l.foldl (wu x.f1) x.f3<x.f2.f1
    ·have h:=ih (j+1) (acc++[(⟨x.f0,x.f1,x.f2,l.foldl (wu x.f1) x.f3⟩:It)]) (by omega) (by omega) (by rw[oB,aan];omega)
     rw[←hw]at h
     have eo:kn l x=some ⟨x.f0,x.f1,x.f2,l.foldl (wu x.f1) x.f3⟩:=by unfold kn;rw[if_pos c,if_pos e]
     rw[List.filterMap_cons_some eo];rw[aa2,List.singleton_append]at h;exact Ev.pos e (Ev.pos (show acc.length<3518437208883 by omega) h)
    ·have h:=ih (j+1) acc (by omega) (by omega) (by omega)
     rw[←hw]at h
     have eo:kn l x=none:=by unfold kn;rw[if_pos c,if_neg e]
     rw[abx eo]
     exact Ev.neg e h)
   exact this
  ·have h:=ih (j+1) acc (by omega) (by omega) (by omega)
   rw[←hw]at h
   have eo:kn l x=none:=by unfold kn;rw[if_neg c]
   rw[abx eo];exact Ev.neg c h
theorem open_eq {l out:List It}(H:Inv l out)(H2:AC l out):l.filterMap (kn l)=out.filter (fun y=> !(y.f3==y.f2.f1)):=by
 have h1:∀m:List It,(∀x∈m,x∈l)→m.filterMap (kn l)=((m.filter r9).map (G6 l)).filter (fun y=>decide (y.f3<y.f2.f1)):=by
  intro m
  induction m with
  |nil=>intro _;rfl
  |cons x t ih=>
   intro hm;have ht:=ih (fun y hy=>hm y (List.mem_cons_of_mem _ hy))
   by_cases c:x.f0=1
   ·have ci:r9 x=true:=by simp[r9,c]
    have hz:=H2.zero x (hm x (List.mem_cons_self ..)) c
    have eu:l.foldl (wu x.f1) x.f3=(look l x.f1).1:=by rw[hz];exact(look_upd x.f1 l (0,-1)).symm
    rw[abj ci,List.map_cons]
    by_cases e:(look l x.f1).1<x.f2.f1
    ·have eo:kn l x=some (G6 l x):=by unfold kn G6;rw[if_pos c,eu,if_pos e]
     rw[List.filterMap_cons_some eo,ht,abj (by show decide ((look l x.f1).1<x.f2.f1)=true;exact decide_eq_true e)]
    ·have eo:kn l x=none:=by unfold kn;rw[if_pos c,eu,if_neg e]
     rw[abx eo,ht,abk (by show¬decide ((look l x.f1).1<x.f2.f1)=true;rw[decide_eq_true_iff];exact e)]
   ·have ci:¬r9 x=true:=by simp[r9,c]
    have eo:kn l x=none:=by unfold kn;rw[if_neg c]
    rw[abx eo,ht,abk ci]
 rw[h1 l (fun x h=>h),←out_eq H H2]
 refine List.filter_congr fun y hy=> ?_
 have:=H2.le y hy;rw[Bool.eq_iff_iff,decide_eq_true_iff,Bool.not_eq_true',beq_eq_false_iff_ne];exact⟨fun h=>by omega,fun h=>by omega⟩
def done(y:It):Bool:=y.f3==y.f2.f1
end Go.Proofs.Ytahnkgehlfdlkaa.Q
