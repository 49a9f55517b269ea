/- What is open of a state, as the reference sees it. -/
import Derived.Test.YtfeokehfhaimkaaIntGood
import Derived.Test.YtfeokehfhaimkaaG3
open List renaming length_append→Ug,length_singleton→eP,drop_eq_nil_of_le→aae,length_set→aam,mem_singleton→aap,append_assoc→aas,ext_getElem→aaU,mem_append→aaY,getElem_map→abf,filterMap_cons_none→abg,getElem_set→abT
open Option.some renaming inj→Gn
namespace Go.Proofs.Ytfeokehfhaimkaa.Q
open Go.RowKit Go.Proofs.YtfeokehfhaimkaaW.PrintWords Go.Proofs.Ytfeokehfhaimkaa.G
set_option linter.unusedVariables false
set_option linter.unusedSimpArgs false
def rN(x:It):Bool:=x.f0==1
structure vQ(p out:List It):Prop where
 key:out.map (fun y=>(y.f0,y.f1,y.f2))=(p.filter rN).map (fun y=>(y.f0,y.f1,y.f2))
 ids:∀j:Nat,j<out.length→(out.getD j z66).f1=(j:Int)+1
 le:∀y∈out,y.f3≤y.f2.f1
 zero:∀x∈p,x.f0=1→x.f3=0
theorem vQ.start:vQ [] []:=⟨rfl,fun j h=>absurd h (Nat.not_lt_zero _),fun y h=>(by cases h),fun y h=>(by cases h)⟩
theorem vQ.next {n:Int}{fp:List X_}{p out o:List It}{x:It}(H:vQ p out)(h:fP n fp out x=some o):vQ (p++[x]) o:=by
 unfold fP at h
 by_cases c:x.f0=1
 ·rw[if_pos c]at h
  by_cases d:x.f1=(out.length:Int)+1∧x.f3=0∧tz n x.f2
  ·rw[if_pos d]at h
   split at h
   ·cases h
   split at h
   ·cases h
   obtain rfl:=Gn h
   have ci:rN x=true:=by simp[rN,c]
   refine⟨?_,fun j hj=> ?_,fun y hy=> ?_,fun y hy e=> ?_⟩
   ·rw[List.map_append,List.filter_append,List.map_append,H.key]
    simp[ci]
   ·rw[Ug,eP]at hj
    rcases Nat.lt_or_ge j out.length with hlt|hge
    ·rw[Di _ _ _ _ hlt];exact H.ids j hlt
    ·have ej:j=out.length:=by omega
     subst ej
     have:(out++[x]).getD out.length z66=x:=by simp
     rw[this];exact d.1
   ·rcases aaY.1 hy with hy|hy
    ·exact H.le y hy
    ·rw[aap.1 hy]
     have:=d.2.2.2.1
     omega
   ·rcases aaY.1 hy with hy|hy
    ·exact H.zero y hy e
    ·rw[aap.1 hy];exact d.2.1
  ·rw[if_neg d]at h
   cases h
 ·rw[if_neg c]at h
  split at h
  ·rename_i d
   obtain rfl:=Gn h;obtain⟨d0,d1,d2,d3,d4,d5,d6⟩:=d
   have hlt:(x.f1-1).toNat<out.length:=by omega
   have ci:rN x=false:=by simp[rN,c]
   refine⟨?_,fun j hj=> ?_,fun y hy=> ?_,fun y hy e=> ?_⟩
   ·rw[List.filter_append,show [x].filter rN=[] by simp[ci],List.append_nil,←H.key,List.map_set]
    refine aaU (by simp) fun i h1 h2=> ?_
    rw[abT]
    split
    ·rename_i hji
     subst hji;rw[abf,sX out _ _ hlt]
    ·rfl
   ·rw[aam]at hj
    by_cases e:(x.f1-1).toNat=j
    ·subst e
     rw[Uk _ _ _ _ hj];exact H.ids _ hj
    ·rw[getD_set_ne _ _ _ _ _ (fun h=>e h.symm)]
     exact H.ids j hj
   ·obtain⟨i,hi,rfl⟩:=List.mem_iff_getElem.1 hy
    rw[aam]at hi;rw[abT]
    split
    ·exact d6
    ·exact H.le _ (List.getElem_mem _)
   ·rcases aaY.1 hy with hy|hy
    ·exact H.zero y hy e
    ·rw[aap.1 hy]at e
     exact absurd e c
  ·cases h
theorem runI_inv {n:Int}{fp:List X_}:∀ (l p out o:List It),Inv p out→vQ p out→gU n fp out l=some o→Inv (p++l) o∧vQ (p++l) o
 |[],p,out,o,H,H2,h=>by
  rw[gU]at h;obtain rfl:=Gn h;rw[List.append_nil];exact⟨H,H2⟩
 |x::t,p,out,o,H,H2,h=>by
  rw[gU]at h
  cases e:fP n fp out x with
  |none=>rw[e]at h;cases h
  |some o1=>
   rw[e]at h;have:=runI_inv t (p++[x]) o1 o (H.next e) (H2.next e) h
   rwa [aas,List.singleton_append]at this
def IN(l:List It)(x:It):It:=⟨x.f0,x.f1,x.f2,(look l x.f1).1⟩
theorem out_eq {l out:List It}(H:Inv l out)(H2:vQ l out):out=(l.filter rN).map (IN l):=by
 have hlen:out.length=(l.filter rN).length:=by
  have:=congrArg List.length H2.key
  simpa using this
 refine aaU (by rw[List.length_map];exact hlen) fun j h1 h2=> ?_
 have hk:(out.map (fun y=>(y.f0,y.f1,y.f2)))[j]'(by simpa using h1)=((l.filter rN).map (fun y=>(y.f0,y.f1,y.f2)))[j]'(by rw[List.length_map,←hlen];exact h1):=by
  simp only[H2.key]
 rw[abf,abf]at hk;simp only[Prod.mk.injEq]at hk;obtain⟨k0,k1,k2⟩:=hk;have hid:=H2.ids j h1;have hon:=H.on j h1;rw[sX out j _ h1]at hid hon;rw[abf]
 have e:IN l (l.filter rN)[j]=(⟨out[j].f0,out[j].f1,out[j].f2,out[j].f3⟩:It):=by
  unfold IN;rw[←k0,←k1,←k2,hid,hon]
 rw[e]
def xu(id:Int)(u:Int)(o:It):Int:=if o.f1=id then o.f3 else u
theorem look_upd(id:Int):∀ (l:List It) (s:Int×Int),(l.foldl (lk id) s).1=l.foldl (xu id) s.1
 |[],_=>rfl
 |x::t,s=>by
  rw[List.foldl_cons,List.foldl_cons,look_upd id t]
  congr 1
  unfold lk xu
  split<;>rfl
def pQ(l:List It)(x:It):Option It:=if x.f0=1 then(if l.foldl (xu x.f1) x.f3<x.f2.f1 then some ⟨x.f0,x.f1,x.f2,l.foldl (xu x.f1) x.f3⟩else none)else none
theorem open_inner(l acc:List It)(j:Nat)(x:It)(r:List It)(hl:l.length≤1048576)
 :∀ (d i:Nat) (u:Int),l.length-i=d→i≤l.length→
 Ev (fun k=>eW.l1 k l acc l (l.length:Int) (j:Int) l (l.length:Int) (l.length:Int) x.f0 x.f1 x.f2.f0 x.f2.f1 ((l.drop i).foldl (xu x.f1) u)) r→
 Ev (fun k=>eW.l1 k l acc l (l.length:Int) (j:Int) l (l.length:Int) (i:Int) x.f0 x.f1 x.f2.f0 x.f2.f1 u) r:=by
 intro d
 induction d with
 |zero=>
  intro i u hd hi h;rw[aae (by omega)]at h;rw[show i=l.length by omega];exact h
 |succ d ih=>
  intro i u hd hi h;rw[oI l i z66 (by omega),List.foldl_cons]at h;have h':=ih (i+1) (xu x.f1 u (l.getD i z66)) (by omega) (by omega) h;rw[show((i+1:Nat):Int)=wrap64 ((i:Int)+1) by rw[bv (by omega) (by omega)];rfl]at h';refine Ev.step (fun k=>by rw[eW.l1]) (Ev.pos (by omega) (Ev.pos (by omega) (Ev.pos (by omega) ?_)));rw[uT];unfold xu at h'
  by_cases c:(l.getD i z66).f1=x.f1
  ·rw[if_pos c]at h'
   exact Ev.pos c h'
  ·rw[if_neg c]at h'
   exact Ev.neg c h'
theorem open_s(l:List It)(hl:l.length≤1048576):∀ (d j:Nat) (acc:List It),l.length-j=d→j≤l.length→acc.length≤j→
 Ev (fun k=>eW.l0 k l acc l (l.length:Int) (j:Int)) (acc++(l.drop j).filterMap (pQ l)):=by
 intro d
 induction d with
 |zero=>
  intro j acc hd hj ha;rw[aae (by omega)];refine Ev.step (fun k=>by rw[eW.l0]) (Ev.neg ?_ (Ev.now' (show acc=acc++([]:List It).filterMap (pQ l) by simp)))
  omega
 |succ d ih=>
  intro j acc hd hj ha;obtain⟨x,hx⟩:∃x,x=l.getD j z66:=⟨_,rfl⟩
  have hw:wrap64 ((j:Int)+1)=((j+1:Nat):Int):=by rw[bv (by omega) (by omega)];rfl
  rw[oI l j z66 (by omega),←hx];refine Ev.step (fun k=>by rw[eW.l0]) (Ev.pos (by omega) (Ev.pos (by omega) (Ev.pos (by omega) ?_)));rw[uT,←hx]
  by_cases c:x.f0=1
  ·refine Ev.pos c ?_
   have:=open_inner l acc j x (acc++(x::l.drop (j+1)).filterMap (pQ l)) hl l.length 0 x.f3 (by omega) (Nat.zero_le _) (by
    rw[List.drop_zero];refine Ev.step (fun k=>by rw[eW.l1]) (Ev.neg (by omega) ?_)
    by_cases e:l.foldl (xu x.f1) x.f3<x.f2.f1
    ·have h:=ih (j+1) (acc++[(⟨x.f0,x.f1,x.f2,l.foldl (xu x.f1) x.f3⟩:It)]) (by omega) (by omega) (by rw[Ug,eP];omega)
     rw[←hw]at h
     have eo:pQ l x=some ⟨x.f0,x.f1,x.f2,l.foldl (xu x.f1) x.f3⟩:=by unfold pQ;rw[if_pos c,if_pos e]
     rw[List.filterMap_cons_some eo];rw[aas,List.singleton_append]at h;exact Ev.pos e (Ev.pos (show acc.length<3518437208883 by omega) h)
    ·have h:=ih (j+1) acc (by omega) (by omega) (by omega)
     rw[←hw]at h
     have eo:pQ l x=none:=by unfold pQ;rw[if_pos c,if_neg e]
     rw[abg eo]
     exact Ev.neg e h)
   exact this
  ·have h:=ih (j+1) acc (by omega) (by omega) (by omega)
   rw[←hw]at h
   have eo:pQ l x=none:=by unfold pQ;rw[if_neg c]
   rw[abg eo];exact Ev.neg c h
theorem open_eq {l out:List It}(H:Inv l out)(H2:vQ l out):l.filterMap (pQ l)=out.filter (fun y=> !(y.f3==y.f2.f1)):=by
 have h1:∀m:List It,(∀x∈m,x∈l)→m.filterMap (pQ l)=((m.filter rN).map (IN l)).filter (fun y=>decide (y.f3<y.f2.f1)):=by
  intro m
  induction m with
  |nil=>intro _;rfl
  |cons x t ih=>
   intro hm;have ht:=ih (fun y hy=>hm y (List.mem_cons_of_mem _ hy))
   by_cases c:x.f0=1
   ·have ci:rN x=true:=by simp[rN,c]
    have hz:=H2.zero x (hm x (List.mem_cons_self ..)) c
    have eu:l.foldl (xu x.f1) x.f3=(look l x.f1).1:=by rw[hz];exact(look_upd x.f1 l (0,-1)).symm
    rw[List.filter_cons_of_pos ci,List.map_cons]
    by_cases e:(look l x.f1).1<x.f2.f1
    ·have eo:pQ l x=some (IN l x):=by unfold pQ IN;rw[if_pos c,eu,if_pos e]
     rw[List.filterMap_cons_some eo,ht,List.filter_cons_of_pos (by show decide ((look l x.f1).1<x.f2.f1)=true;exact decide_eq_true e)]
    ·have eo:pQ l x=none:=by unfold pQ;rw[if_pos c,eu,if_neg e]
     rw[abg eo,ht,List.filter_cons_of_neg (by show¬decide ((look l x.f1).1<x.f2.f1)=true;rw[decide_eq_true_iff];exact e)]
   ·have ci:¬rN x=true:=by simp[rN,c]
    have eo:pQ l x=none:=by unfold pQ;rw[if_neg c]
    rw[abg eo,ht,List.filter_cons_of_neg ci]
 rw[h1 l (fun x h=>h),←out_eq H H2]
 refine List.filter_congr fun y hy=> ?_
 have:=H2.le y hy;rw[Bool.eq_iff_iff,decide_eq_true_iff,Bool.not_eq_true',beq_eq_false_iff_ne];exact⟨fun h=>by omega,fun h=>by omega⟩
def done(y:It):Bool:=y.f3==y.f2.f1
end Go.Proofs.Ytfeokehfhaimkaa.Q
