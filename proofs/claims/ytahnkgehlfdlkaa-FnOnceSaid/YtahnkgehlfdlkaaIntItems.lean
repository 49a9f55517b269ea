/- Items of a state of work, as the reference and the program judge them: the same. -/
import Derived.Test.YtahnkgehlfdlkaaIntFree
import Derived.Test.YtahnkgehlfdlkaaG2
import Derived.Test.YtahnkgehlfdlkaaG7
open Bool renaming eq_false_iff→Q3,or_eq_true→aa9,false_or→abJ
open Go.RowKit renaming wrap64→Ee
open Int renaming toNat_natCast→aa7
open List renaming length_append→oB,length_singleton→aan,drop_eq_nil_of_le→aaw,length_set→aaA,drop_zero→aaL,any_cons→abV,getElem_set→abY
open Nat renaming zero_le→pu
open Option renaming bind_some→N6
open Option.some renaming inj→Ok
namespace Go.Proofs.Ytahnkgehlfdlkaa.Q
open Go.RowKit Go.Proofs.YtahnkgehlfdlkaaW.PrintWords Go.Proofs.Ytahnkgehlfdlkaa.G
set_option linter.unusedVariables false
set_option linter.unusedSimpArgs false
abbrev It:=aV
theorem ua(l:List It)(i:Nat):J l (i:Int)=l.getD i cr:=by simp[J]
def iT(a b:X_):Bool:=decide (a.f0<Ee (b.f0+b.f1)∧b.f0<Ee (a.f0+a.f1))
theorem ovb_comm(a b:X_):iT a b=iT b a:=ON And.comm
theorem ov_s(a b:X_):ww.f a.f0 a.f1 b.f0 b.f1=some (iT a b):=by
 unfold ww.f iT
 by_cases h:a.f0<Ee (b.f0+b.f1)
 ·rw[if_pos h];simp[h]
 ·rw[if_neg h];simp[h]
theorem ov_i(a b:X_):wx.f a.f0 a.f1 b.f0 b.f1=some (iT a b):=by
 unfold wx.f iT
 by_cases h:a.f0<Ee (b.f0+b.f1)
 ·rw[if_pos h];simp[h]
 ·rw[if_neg h];simp[h]
def nG(n:Int)(x:X_):Prop:=0≤x.f0∧1≤x.f1∧x.f1≤n∧x.f0≤n-x.f1
instance(n:Int)(x:X_):Decidable (nG n x):=by unfold nG;infer_instance
theorem Lg(n:Int)(x:X_)(h1:1≤n)(h2:n≤400):ud.f x.f0 x.f1 n=some (decide (nG n x)):=by
 unfold ud.f nG
 by_cases c:x.f0≥0
 ·rw[if_pos c,Gc,N6]
  by_cases d:1≤x.f1∧x.f1≤n
  ·rw[if_pos (by simpa using d),dO (by omega) (by omega)]
   congr 1
   exact ON ⟨fun h=>⟨c,d.1,d.2,h⟩,fun h=>h.2.2.2⟩
  ·rw[if_neg (by simpa using d)]
   congr 1
   exact(OM (fun h=>d ⟨h.2.1,h.2.2.1⟩)).symm
 ·rw[if_neg c]
  congr 1
  exact(OM (fun h=>c h.1)).symm
theorem Xh(n:Int)(x:X_)(h1:1≤n)(h2:n≤400):nJ.f x.f0 x.f1 n=some (decide (nG n x)):=by
 unfold nJ.f nG;rw[xM,dO (show -9223372036854775808≤n-1 by omega) (by omega),N6]
 by_cases c:0≤x.f0∧x.f0≤n-1
 ·rw[if_pos (by simpa using c),xM,dO (show -9223372036854775808≤n-x.f0 by omega) (by omega),N6]
  congr 1
  exact ON ⟨fun h=>⟨by omega,by omega,by omega,by omega⟩,fun h=>⟨by omega,by omega⟩⟩
 ·rw[if_neg (by simpa using c)]
  congr 1
  exact(OM (fun h=>c ⟨h.1,by omega⟩)).symm
def gx(n:Int)(fp:List X_)(out:List It)(x:It):Option (List It):=
 if x.f0=1 then
  (if x.f1=(out.length:Int)+1∧x.f3=0∧nG n x.f2 then
    (if out.any (fun y=>iT x.f2 y.f2)=true then none else if fp.any (fun y=>iT x.f2 y)=true then none else some (out++[x]))else none)
 else if x.f0=2∧x.f2.f0=0∧x.f2.f1=0∧1≤x.f1∧x.f1≤(out.length:Int)∧Ee ((out.getD (x.f1-1).toNat cr).f3+1)≤x.f3∧x.f3≤(out.getD (x.f1-1).toNat cr).f2.f1 then
  some (out.set (x.f1-1).toNat (⟨(out.getD (x.f1-1).toNat cr).f0,(out.getD (x.f1-1).toNat cr).f1,(out.getD (x.f1-1).toNat cr).f2,x.f3⟩:It))else none
def gC(n:Int)(fp:List X_):List It→List It→Option (List It)
 |out,[]=>some out
 |out,x::t=>(gx n fp out x).bind fun o=>gC n fp o t
theorem Sm {n:Int}{fp:List X_}{out o:List It}{x:It}(h:gx n fp out x=some o):out.length≤o.length∧o.length≤out.length+1:=by
 unfold gx at h
 split at h
 ·split at h
  ·split at h
   ·cases h
   ·split at h
    ·cases h
    ·obtain rfl:=Ok h
     simp
  ·cases h
 ·split at h
  ·obtain rfl:=Ok h
   simp
  ·cases h
def lk(id:Int)(s:Int×Int)(o:It):Int×Int:=if o.f1=id then(o.f3,if o.f0=1 then o.f2.f1 else s.2)else s
def look(p:List It)(id:Int):Int×Int:=p.foldl (lk id) (0,-1)
theorem OO(p:List It)(x:It)(id:Int):look (p++[x]) id=lk id (look p id) x:=by simp[look]
structure Inv(p out:List It):Prop where
 ov:∀e:X_,p.any (fun o=>o.f0==1&&iT o.f2 e)=out.any (fun y=>iT e y.f2)
 on:∀j:Nat,j<out.length→look p ((j:Int)+1)=((out.getD j cr).f3,(out.getD j cr).f2.f1)
 off:∀id:Int,¬(1≤id∧id≤(out.length:Int))→look p id=(0,-1)
 long:∀y∈out,1≤y.f2.f1
theorem Inv.start:Inv [] []:=⟨fun _=>rfl,fun j h=>absurd h (Nat.not_lt_zero _),fun _ _=>rfl,fun y h=>by cases h⟩
theorem Tl {α:Type}(l:List α)(x:α)(f:α→Bool):(l++[x]).any f=(l.any f||f x):=by simp
theorem any_set_same {l:List It}{j:Nat}{y:It}(h:j<l.length)(he:y.f2=(l.getD j cr).f2)(f:X_→Bool):(l.set j y).any (fun z=>f z.f2)=l.any (fun z=>f z.f2):=by
 have e:(l.set j y).map (·.f2)=l.map (·.f2):=by
  rw[List.map_set]
  refine List.ext_getElem (by simp) fun i h1 h2=> ?_
  rw[abY]
  split
  ·rename_i hji
   subst hji;rw[he,vK l j _ h,List.getElem_map]
  ·rfl
 have a1:∀m:List It,m.any (fun z=>f z.f2)=(m.map (·.f2)).any f:=fun m=>by rw[List.any_map];rfl
 rw[a1,a1,e]
theorem Inv.next {n:Int}{fp:List X_}{p out o:List It}{x:It}(H:Inv p out)(h:gx n fp out x=some o):Inv (p++[x]) o:=by
 unfold gx at h
 by_cases c:x.f0=1
 ·rw[if_pos c]at h
  by_cases d:x.f1=(out.length:Int)+1∧x.f3=0∧nG n x.f2
  ·rw[if_pos d]at h
   split at h
   ·cases h
   split at h
   ·cases h
   obtain rfl:=Ok h;refine⟨fun e=> ?_,fun j hj=> ?_,fun id hid=> ?_,fun y hy=> ?_⟩
   ·rw[Tl,Tl,H.ov,c,ovb_comm x.f2 e]
    simp
   ·rw[OO,lk]
    rw[oB,aan]at hj
    by_cases e:x.f1=(j:Int)+1
    ·have ej:j=out.length:=by omega
     rw[if_pos e,if_pos c,ej]
     have:(out++[x]).getD out.length cr=x:=by simp
     rw[this]
    ·rw[if_neg e,H.on j (by omega),Cf _ _ _ _ (by omega)]
   ·rw[OO,lk]
    rw[oB,aan]at hid;rw[if_neg (by omega)];exact H.off id (by omega)
   ·rcases List.mem_append.1 hy with hy|hy
    ·exact H.long y hy
    ·rw[List.mem_singleton.1 hy];exact d.2.2.2.1
  ·rw[if_neg d]at h
   cases h
 ·rw[if_neg c]at h
  split at h
  ·rename_i d
   obtain rfl:=Ok h;obtain⟨d0,d1,d2,d3,d4,d5,d6⟩:=d
   have hlt:(x.f1-1).toNat<out.length:=by omega
   refine⟨fun e=> ?_,fun j hj=> ?_,fun id hid=> ?_,fun y hy=> ?_⟩
   ·rw[Tl,H.ov]
    have:(x.f0==1&&iT x.f2 e)=false:=by simp[c]
    rw[this,Bool.or_false];refine(any_set_same hlt ?_ (fun z=>iT e z)).symm
    rfl
   ·rw[aaA]at hj
    rw[OO,lk]
    by_cases e:x.f1=(j:Int)+1
    ·have ej:(x.f1-1).toNat=j:=by omega
     rw[if_pos e,if_neg c,ej,Sk _ _ _ _ hj,H.on j hj]
    ·rw[if_neg e,H.on j hj,getD_set_ne _ _ _ _ _ (by omega)]
   ·rw[aaA]at hid
    rw[OO,lk,if_neg (by omega)];exact H.off id hid
   ·obtain⟨i,hi,rfl⟩:=List.mem_iff_getElem.1 hy
    rw[aaA]at hi;rw[abY]
    split
    ·show 1≤(out.getD (x.f1-1).toNat cr).f2.f1
     exact H.long _ (Cv _ _ _ hlt)
    ·exact H.long _ (List.getElem_mem _)
  ·cases h
theorem find1(l:List It)(x:It)(hl:l.length≤2000000):∀ (d j:Nat),l.length-j=d→j≤l.length→
 ∃i,Ev (fun k=>kd.l0 k l (l.length:Int) (j:Int) x.f0 x.f1 x.f2.f0 x.f2.f1 x.f3) i∧(i≥0↔ (l.drop j).any (fun y=>iT x.f2 y.f2)=true):=by
 intro d
 induction d with
 |zero=>
  intro j hd hj;refine⟨-1,Ev.step (fun k=>by rw[kd.l0]) (Ev.neg (by omega) (Ev.now _)), ?_⟩;rw[aaw (by omega)]
  simp
 |succ d ih=>
  intro j hd hj
  have e1:Cd.f (l.getD j cr).f0 (l.getD j cr).f1 (l.getD j cr).f2.f0 (l.getD j cr).f2.f1 (l.getD j cr).f3 x.f0 x.f1 x.f2.f0 x.f2.f1 x.f3=some (iT x.f2 (l.getD j cr).f2):=by
   unfold Cd.f;rw[ov_i x.f2 (l.getD j cr).f2]
   rfl
  rw[oJ l j cr (by omega),abV]
  by_cases c:iT x.f2 (l.getD j cr).f2=true
  ·refine⟨(j:Int),Ev.step (fun k=>by rw[kd.l0]) (Ev.pos (by omega) (Ev.pos (by omega) (Ev.pos (by omega) ?_))), ?_⟩
   ·rw[ua]
    exact Ev.ct _ e1 (Ev.pos c (Ev.now _))
   ·rw[c,Bool.true_or]
    exact⟨fun _=>rfl,fun _=>by omega⟩
  ·obtain⟨i,hi,he⟩:=ih (j+1) (by omega) (by omega)
   refine⟨i,Ev.step (fun k=>by rw[kd.l0]) (Ev.pos (by omega) (Ev.pos (by omega) (Ev.pos (by omega) ?_))), ?_⟩
   ·rw[ua]
    refine Ev.ct _ e1 (Ev.neg c ?_);rw[show Ee ((j:Int)+1)=((j+1:Nat):Int) by rw[dO (by omega) (by omega)];rfl];exact hi
   ·rw[he,Q3.mpr c,abJ]
theorem find2(l:List X_)(x:It)(hl:l.length≤2000000):∀ (d j:Nat),l.length-j=d→j≤l.length→
 ∃i,Ev (fun k=>kc.l0 k l (l.length:Int) (j:Int) x.f0 x.f1 x.f2.f0 x.f2.f1 x.f3) i∧(i≥0↔ (l.drop j).any (fun y=>iT x.f2 y)=true):=by
 intro d
 induction d with
 |zero=>
  intro j hd hj;refine⟨-1,Ev.step (fun k=>by rw[kc.l0]) (Ev.neg (by omega) (Ev.now _)), ?_⟩;rw[aaw (by omega)]
  simp
 |succ d ih=>
  intro j hd hj
  have e1:Ce.f (l.getD j ey).f0 (l.getD j ey).f1 x.f0 x.f1 x.f2.f0 x.f2.f1 x.f3=some (iT x.f2 (l.getD j ey)):=by
   unfold Ce.f;rw[ov_i x.f2 (l.getD j ey)]
   rfl
  rw[oJ l j ey (by omega),abV]
  by_cases c:iT x.f2 (l.getD j ey)=true
  ·refine⟨(j:Int),Ev.step (fun k=>by rw[kc.l0]) (Ev.pos (by omega) (Ev.pos (by omega) (Ev.pos (by omega) ?_))), ?_⟩
   ·rw[ou]
    exact Ev.ct _ e1 (Ev.pos c (Ev.now _))
   ·rw[c,Bool.true_or]
    exact⟨fun _=>rfl,fun _=>by omega⟩
  ·obtain⟨i,hi,he⟩:=ih (j+1) (by omega) (by omega)
   refine⟨i,Ev.step (fun k=>by rw[kc.l0]) (Ev.pos (by omega) (Ev.pos (by omega) (Ev.pos (by omega) ?_))), ?_⟩
   ·rw[ou]
    refine Ev.ct _ e1 (Ev.neg c ?_);rw[show Ee ((j:Int)+1)=((j+1:Nat):Int) by rw[dO (by omega) (by omega)];rfl];exact hi
   ·rw[he,Q3.mpr c,abJ]
theorem has1(l:List It)(x:It)(hl:l.length≤2000000):Ev (fun k=>qb.f k l x.f0 x.f1 x.f2.f0 x.f2.f1 x.f3) (l.any (fun y=>iT x.f2 y.f2)):=by
 obtain⟨i,hi,he⟩:=find1 l x hl l.length 0 rfl (pu _);rw[aaL]at he;unfold qb.f kd.f;refine Ev.bind' _ hi (Ev.now' ?_);rw[Bool.eq_iff_iff,decide_eq_true_iff];exact he
theorem has2(l:List X_)(x:It)(hl:l.length≤2000000):Ev (fun k=>rX.f k l x.f0 x.f1 x.f2.f0 x.f2.f1 x.f3) (l.any (fun y=>iT x.f2 y)):=by
 obtain⟨i,hi,he⟩:=find2 l x hl l.length 0 rfl (pu _);rw[aaL]at he;unfold rX.f kc.f;refine Ev.bind' _ hi (Ev.now' ?_);rw[Bool.eq_iff_iff,decide_eq_true_iff];exact he
def qZ:Option (List It)→List It×Bool
 |some o=>(o,true)
 |none=>([],false)
theorem Vv(n:Int)(fp m:List X_)(l:List It)(h1:1≤n)(h2:n≤400)(hfp:fp.length≤60)(hl:l.length≤30):∀ (d j:Nat) (out:List It),l.length-j=d→j≤l.length→out.length≤j→
 Ev (fun k=>dH.l0 k out l (l.length:Int) (j:Int) n fp m) (qZ (gC n fp out (l.drop j))):=by
 intro d
 induction d with
 |zero=>
  intro j out hd hj ho;rw[aaw (by omega)];refine Ev.step (fun k=>by rw[dH.l0]) (Ev.neg ?_ (Ev.now' (show(out,true)=qZ (gC n fp out [])from rfl)))
  omega
 |succ d ih=>
  intro j out hd hj ho;obtain⟨x,hx⟩:∃x,x=l.getD j cr:=⟨_,rfl⟩
  have nx:∀o,gx n fp out x=some o→Ev (fun k=>dH.l0 k o l (l.length:Int) (wrap64 ((j:Int)+1)) n fp m) (qZ (gC n fp out (l.drop j))):=by
   intro o hs;have hol:=Sm hs;rw[show Ee ((j:Int)+1)=((j+1:Nat):Int) by rw[dO (by omega) (by omega)];rfl,oJ l j cr (by omega),←hx,gC,hs];exact ih (j+1) o (by omega) (by omega) (by omega)
  have no:gx n fp out x=none→qZ (gC n fp out (l.drop j))=(([]:List It),false):=by
   intro hs;rw[oJ l j cr (by omega),←hx,gC,hs]
   rfl
  have fin:gx n fp out x=none→Ev (fun _:Nat=>some (([]:List It),false)) (qZ (gC n fp out (l.drop j))):=fun hs=>Ev.now' (no hs).symm
  refine Ev.step (fun k=>by rw[dH.l0]) (Ev.pos (by omega) (Ev.pos (by omega) (Ev.pos (by omega) ?_)));rw[ua,←hx]
  by_cases c2:x.f0=2
  ·have c1:¬x.f0=1:=by omega
   refine Ev.pos c2 (Ev.ct _ (xM _ _ _) ?_)
   by_cases d1:1≤x.f1∧x.f1≤(out.length:Int)
   ·refine Ev.pos (by simpa using d1) ?_
    have hi:Ee (x.f1-1)=(((x.f1-1).toNat:Nat):Int):=by rw[dO (by omega) (by omega)];omega
    by_cases d2:x.f2.f0=0∧x.f2.f1=0
    ·refine Ev.neg (by simp[d2.1,d2.2]) ?_
     rw[hi];refine Ev.pos (by omega) (Ev.pos (by omega) ?_);rw[ua];refine Ev.ct _ (xM _ _ _) ?_
     by_cases d3:Ee ((out.getD (x.f1-1).toNat cr).f3+1)≤x.f3∧x.f3≤(out.getD (x.f1-1).toNat cr).f2.f1
     ·refine Ev.pos (by simpa using d3) ?_
      rw[aa7];exact nx _ (by unfold gx;rw[if_neg c1,if_pos ⟨c2,d2.1,d2.2,d1.1,d1.2,d3.1,d3.2⟩])
     ·exact Ev.neg (by simpa using d3) (fin (by unfold gx;rw[if_neg c1,if_neg (fun h=>d3 ⟨h.2.2.2.2.2.1,h.2.2.2.2.2.2⟩)]))
    ·refine Ev.pos ?_ (fin (by unfold gx;rw[if_neg c1,if_neg (fun h=>d2 ⟨h.2.1,h.2.2.1⟩)]))
     simp only[aa9,Bool.not_eq_true',beq_eq_false_iff_ne,ne_eq]
     by_cases e:x.f2.f0=0
     ·exact .inr (fun e2=>d2 ⟨e,e2⟩)
     ·exact .inl e
   ·exact Ev.neg (by simpa using d1) (fin (by unfold gx;rw[if_neg c1,if_neg (fun h=>d1 ⟨h.2.2.2.1,h.2.2.2.2.1⟩)]))
  ·refine Ev.neg c2 ?_
   by_cases c1:x.f0=1
   ·refine Ev.pos c1 ?_
    have hw:Ee ((out.length:Int)+1)=(out.length:Int)+1:=dO (by omega) (by omega);rw[hw]
    by_cases d1:x.f1=(out.length:Int)+1
    ·refine Ev.pos d1 ?_
     by_cases d2:x.f3=0
     ·refine Ev.pos d2 (Ev.ct _ (Xh n x.f2 h1 h2) ?_)
      by_cases d3:nG n x.f2
      ·refine Ev.pos (by simpa using d3) (Ev.bind' _ (has1 out x (by omega)) ?_)
       by_cases d4:out.any (fun y=>iT x.f2 y.f2)=true
       ·exact Ev.pos d4 (fin (by unfold gx;rw[if_pos c1,if_pos ⟨d1,d2,d3⟩,if_pos d4]))
       ·refine Ev.neg d4 (Ev.bind' _ (has2 fp x (by omega)) ?_)
        by_cases d5:fp.any (fun y=>iT x.f2 y)=true
        ·exact Ev.pos d5 (fin (by unfold gx;rw[if_pos c1,if_pos ⟨d1,d2,d3⟩,if_neg d4,if_pos d5]))
        ·exact Ev.neg d5 (Ev.pos (by omega) (nx _ (by unfold gx;rw[if_pos c1,if_pos ⟨d1,d2,d3⟩,if_neg d4,if_neg d5])))
      ·exact Ev.neg (by simpa using d3) (fin (by unfold gx;rw[if_pos c1,if_neg (fun h=>d3 h.2.2)]))
     ·exact Ev.neg d2 (fin (by unfold gx;rw[if_pos c1,if_neg (fun h=>d2 h.2.1)]))
    ·exact Ev.neg d1 (fin (by unfold gx;rw[if_pos c1,if_neg (fun h=>d1 h.1)]))
   ·exact Ev.neg c1 (fin (by unfold gx;rw[if_neg c1,if_neg (fun h=>c2 h.1)]))
section
variable (n : Int) (fp m : List X_) (l : List It)
theorem s_l2(nxt:Int)(j:Nat)(x:It)(r:Int×Bool)(hfp:fp.length≤1048576):
 ∀ (d i:Nat),fp.length-i=d→i≤fp.length→((fp.drop i).any (fun y=>iT y x.f2)=false→Ev (fun k=>cD.l0 k l (wrap64 (nxt+1)) l (l.length:Int) (wrap64 ((j:Int)+1)) n fp m) r)→Ev (fun k=>cD.l2 k l nxt l (l.length:Int) (j:Int) fp (fp.length:Int) (i:Int) n fp m x.f0 x.f1 x.f2.f0 x.f2.f1 x.f3) (if(fp.drop i).any (fun y=>iT y x.f2)=true then(0,false)else r):=by
 intro d
 induction d with
 |zero=>
  intro i hd hi h;rw[aaw (by omega)]at h⊢;exact Ev.step (fun k=>by rw[cD.l2]) (Ev.neg (by omega) (by simpa using h rfl))
 |succ d ih=>
  intro i hd hi h;rw[oJ fp i ey (by omega),abV]at h⊢;refine Ev.step (fun k=>by rw[cD.l2]) (Ev.pos (by omega) (Ev.pos (by omega) (Ev.pos (by omega) ?_)));rw[ou];refine Ev.ct _ (ov_s (fp.getD i ey) x.f2) ?_
  by_cases c:iT (fp.getD i ey) x.f2=true
  ·exact Ev.pos c (Ev.now' (by rw[c,Bool.true_or,if_pos rfl]))
  ·refine Ev.neg c ?_
   rw[show Ee ((i:Int)+1)=((i+1:Nat):Int) by rw[dO (by omega) (by omega)];rfl];exact Ev.eq (ih (i+1) (by omega) (by omega) (fun q=>h (by rw[Q3.mpr c,abJ];exact q))) (by rw[Q3.mpr c,abJ])
theorem Za(nxt:Int)(j:Nat)(x:It)(p:List It)(r:Int×Bool)(hp:p.length≤1048576):
 ∀ (d i:Nat),p.length-i=d→i≤p.length→((p.drop i).any (fun o=>o.f0==1&&iT o.f2 x.f2)=false→Ev (fun k=>cD.l2 k l nxt l (l.length:Int) (j:Int) fp (fp.length:Int) 0 n fp m x.f0 x.f1 x.f2.f0 x.f2.f1 x.f3) r)→Ev (fun k=>cD.l1 k l nxt l (l.length:Int) (j:Int) p (p.length:Int) (i:Int) n fp m x.f0 x.f1 x.f2.f0 x.f2.f1 x.f3) (if(p.drop i).any (fun o=>o.f0==1&&iT o.f2 x.f2)=true then(0,false)else r):=by
 intro d
 induction d with
 |zero=>
  intro i hd hi h;rw[aaw (by omega)]at h⊢;exact Ev.step (fun k=>by rw[cD.l1]) (Ev.neg (by omega) (by simpa using h rfl))
 |succ d ih=>
  intro i hd hi h;rw[oJ p i cr (by omega),abV]at h⊢
  have nx:(((p.getD i cr).f0==1&&iT (p.getD i cr).f2 x.f2)=false)→Ev (fun k=>cD.l1 k l nxt l (l.length:Int) (j:Int) p (p.length:Int) (wrap64 ((i:Int)+1)) n fp m x.f0 x.f1 x.f2.f0 x.f2.f1 x.f3) (if((p.getD i cr).f0==1&&iT (p.getD i cr).f2 x.f2||(p.drop (i+1)).any (fun o=>o.f0==1&&iT o.f2 x.f2))=true then(0,false)else r):=by
   intro e;rw[e,abJ,show Ee ((i:Int)+1)=((i+1:Nat):Int) by rw[dO (by omega) (by omega)];rfl];exact ih (i+1) (by omega) (by omega) (fun q=>h (by rw[e,q];rfl))
  refine Ev.step (fun k=>by rw[cD.l1]) (Ev.pos (by omega) (Ev.pos (by omega) (Ev.pos (by omega) ?_)));rw[ua]
  by_cases c0:(p.getD i cr).f0=1
  ·refine Ev.pos c0 (Ev.ct _ (ov_s (p.getD i cr).f2 x.f2) ?_)
   by_cases c:iT (p.getD i cr).f2 x.f2=true
   ·exact Ev.pos c (Ev.now' (by rw[c0,c];simp))
   ·exact Ev.neg c (nx (by rw[Q3.mpr c,Bool.and_false]))
  ·exact Ev.neg c0 (nx (by rw[beq_eq_false_iff_ne.mpr c0,Bool.false_and]))
theorem s_l3(nxt:Int)(j:Nat)(x:It)(p:List It)(r:Int×Bool)(hp:p.length≤1048576):
 ∀ (d i:Nat) (s:Int×Int),p.length-i=d→i≤p.length→
 Ev (fun k=>cD.l3 k l nxt ((p.drop i).foldl (lk x.f1) s).1 ((p.drop i).foldl (lk x.f1) s).2 l (l.length:Int) (j:Int) p (p.length:Int) (p.length:Int) n fp m x.f0 x.f1 x.f2.f0 x.f2.f1 x.f3) r→
 Ev (fun k=>cD.l3 k l nxt s.1 s.2 l (l.length:Int) (j:Int) p (p.length:Int) (i:Int) n fp m x.f0 x.f1 x.f2.f0 x.f2.f1 x.f3) r:=by
 intro d
 induction d with
 |zero=>
  intro i s hd hi h;rw[aaw (by omega)]at h;rw[show i=p.length by omega];exact h
 |succ d ih=>
  intro i s hd hi h;rw[oJ p i cr (by omega),List.foldl_cons]at h;have h':=ih (i+1) (lk x.f1 s (p.getD i cr)) (by omega) (by omega) h;rw[show((i+1:Nat):Int)=Ee ((i:Int)+1) by rw[dO (by omega) (by omega)];rfl]at h';refine Ev.step (fun k=>by rw[cD.l3]) (Ev.pos (by omega) (Ev.pos (by omega) (Ev.pos (by omega) ?_)));rw[ua];unfold lk at h'
  by_cases c:(p.getD i cr).f1=x.f1
  ·rw[if_pos c]at h'
   refine Ev.pos c ?_
   by_cases c0:(p.getD i cr).f0=1
   ·rw[if_pos c0]at h'
    exact Ev.pos c0 h'
   ·rw[if_neg c0]at h'
    exact Ev.neg c0 h'
  ·rw[if_neg c]at h'
   exact Ev.neg c h'
def uW(b:Bool):Option (List It)→Int×Bool
 |some o=>((o.length:Int)+1,b)
 |none=>(0,false)
theorem Vu(h1:1≤n)(h2:n≤400)(hfp:fp.length≤60)(hl:l.length≤1048576):∀ (d j:Nat) (out:List It),l.length-j=d→j≤l.length→out.length≤j→Inv (l.take j) out→
 Ev (fun k=>cD.l0 k l ((out.length:Int)+1) l (l.length:Int) (j:Int) n fp m) (uW (decide ((l.length:Int)≤30)) (gC n fp out (l.drop j))):=by
 intro d
 induction d with
 |zero=>
  intro j out hd hj ho H;rw[aaw (by omega)];refine Ev.step (fun k=>by rw[cD.l0]) (Ev.neg ?_ (Ev.now' (show((out.length:Int)+1,decide ((l.length:Int)≤30))=uW (decide ((l.length:Int)≤30)) (gC n fp out [])from rfl)))
  omega
 |succ d ih=>
  intro j out hd hj ho H;obtain⟨x,hx⟩:∃x,x=l.getD j cr:=⟨_,rfl⟩
  have htl:(l.take j).length=j:=by rw[List.length_take];omega
  have nx:∀o,gx n fp out x=some o→Ev (fun k=>cD.l0 k l ((o.length:Int)+1) l (l.length:Int) (wrap64 ((j:Int)+1)) n fp m) (uW (decide ((l.length:Int)≤30)) (gC n fp out (l.drop j))):=by
   intro o hs;have hol:=Sm hs;have H':=H.next hs;rw[show Ee ((j:Int)+1)=((j+1:Nat):Int) by rw[dO (by omega) (by omega)];rfl,oJ l j cr (by omega),←hx,gC,hs];refine ih (j+1) o (by omega) (by omega) (by omega) ?_;rw[Ho l j cr (by omega),←hx];exact H'
  have no:gx n fp out x=none→uW (decide ((l.length:Int)≤30)) (gC n fp out (l.drop j))=(0,false):=by
   intro hs;rw[oJ l j cr (by omega),←hx,gC,hs]
   rfl
  have fin:gx n fp out x=none→Ev (fun _:Nat=>some ((0:Int),false)) (uW (decide ((l.length:Int)≤30)) (gC n fp out (l.drop j))):=fun hs=>Ev.now' (no hs).symm
  have badj:gx n fp out x=none→Ev (fun k=>cD.j1 k l ((out.length:Int)+1) (j:Int) l (l.length:Int) (j:Int) true n fp m x.f0 x.f1 x.f2.f0 x.f2.f1 x.f3) (uW (decide ((l.length:Int)≤30)) (gC n fp out (l.drop j))):=fun hs=>
   Ev.step (fun k=>by rw[cD.j1]) (Ev.pos rfl (fin hs))
  refine Ev.step (fun k=>by rw[cD.l0]) (Ev.pos (by omega) (Ev.pos (by omega) (Ev.pos (by omega) ?_)));rw[ua,←hx]
  by_cases c1:x.f0=1
  ·refine Ev.pos c1 ?_
   by_cases d1:x.f1=(out.length:Int)+1
   ·refine Ev.pos d1 ?_
    by_cases d2:x.f3=0
    ·refine Ev.pos d2 (Ev.ct _ (Lg n x.f2 h1 h2) ?_)
     by_cases d3:nG n x.f2
     ·rw[decide_eq_true d3]
      refine Ev.step (fun k=>by rw[cD.j1]) (Ev.neg (by simp) (Ev.pos (by omega) (Ev.pos (by omega) ?_)));simp only[N6,aa7];have e1:=H.ov x.f2
      have e2:fp.any (fun y=>iT y x.f2)=fp.any (fun y=>iT x.f2 y):=by
       congr 1
       funext y
       exact ovb_comm _ _
      by_cases d4:out.any (fun y=>iT x.f2 y.f2)=true
      ·have:=Za n fp m l ((out.length:Int)+1) j x (l.take j) (0,false) (by omega) (l.take j).length 0 rfl (pu _) (fun q=>by rw[aaL,e1,d4]at q;cases q)
       rw[aaL,e1,if_pos d4]at this;rw[no (by unfold gx;rw[if_pos c1,if_pos ⟨d1,d2,d3⟩,if_pos d4])];exact this
      ·by_cases d5:fp.any (fun y=>iT x.f2 y)=true
       ·have h2:=s_l2 n fp m l ((out.length:Int)+1) j x (0,false) (by omega) fp.length 0 rfl (pu _) (fun q=>by rw[aaL,e2,d5]at q;cases q)
        rw[aaL,e2,if_pos d5]at h2;have:=Za n fp m l ((out.length:Int)+1) j x (l.take j) _ (by omega) (l.take j).length 0 rfl (pu _) (fun _=>h2);rw[aaL,e1,if_neg d4]at this;rw[no (by unfold gx;rw[if_pos c1,if_pos ⟨d1,d2,d3⟩,if_neg d4,if_pos d5])];exact this
       ·have hs:gx n fp out x=some (out++[x]):=by unfold gx;rw[if_pos c1,if_pos ⟨d1,d2,d3⟩,if_neg d4,if_neg d5]
        have hn:=nx _ hs;rw[oB,aan,show(((out.length+1:Nat)):Int)+1=Ee (((out.length:Int)+1)+1) by rw[dO (by omega) (by omega)];omega]at hn;have h2:=s_l2 n fp m l ((out.length:Int)+1) j x _ (by omega) fp.length 0 rfl (pu _) (fun _=>hn);rw[aaL,e2,if_neg d5]at h2;have:=Za n fp m l ((out.length:Int)+1) j x (l.take j) _ (by omega) (l.take j).length 0 rfl (pu _) (fun _=>h2);rw[aaL,e1,if_neg d4]at this;exact this
     ·rw[decide_eq_false d3]
      exact badj (by unfold gx;rw[if_pos c1,if_neg (fun h=>d3 h.2.2)])
    ·exact Ev.neg d2 (badj (by unfold gx;rw[if_pos c1,if_neg (fun h=>d2 h.2.1)]))
   ·exact Ev.neg d1 (badj (by unfold gx;rw[if_pos c1,if_neg (fun h=>d1 h.1)]))
  ·refine Ev.neg c1 (Ev.pos (by omega) ?_)
   simp only[N6,aa7];refine s_l3 n fp m l ((out.length:Int)+1) j x (l.take j) _ (by omega) (l.take j).length 0 (0,-1) rfl (pu _) ?_;rw[aaL,show((l.take j).foldl (lk x.f1) (0,-1))=look (l.take j) x.f1 from rfl];refine Ev.step (fun k=>by rw[cD.l3]) (Ev.neg (by omega) ?_)
   by_cases c2:x.f0=2
   ·refine Ev.pos c2 ?_
    by_cases d2:x.f2.f0=0∧x.f2.f1=0
    ·refine Ev.neg (by simp[d2.1,d2.2]) ?_
     by_cases d1:1≤x.f1∧x.f1≤(out.length:Int)
     ·have hlt:(x.f1-1).toNat<out.length:=by omega
      have e:=H.on (x.f1-1).toNat hlt;rw[show(((x.f1-1).toNat:Nat):Int)+1=x.f1 by omega]at e;have hg:=H.long _ (Cv out _ cr hlt);rw[e];refine Ev.neg (by dsimp only;omega) (Ev.ct _ (Gc _ _ _) ?_)
      by_cases d3:Ee ((out.getD (x.f1-1).toNat cr).f3+1)≤x.f3∧x.f3≤(out.getD (x.f1-1).toNat cr).f2.f1
      ·have hs:gx n fp out x=some (out.set (x.f1-1).toNat (⟨(out.getD (x.f1-1).toNat cr).f0,(out.getD (x.f1-1).toNat cr).f1,(out.getD (x.f1-1).toNat cr).f2,x.f3⟩:It)):=by
        unfold gx;rw[if_neg c1,if_pos ⟨c2,d2.1,d2.2,d1.1,d1.2,d3.1,d3.2⟩]
       have hn:=nx _ hs;rw[aaA]at hn;exact Ev.pos (by simpa using d3) hn
      ·exact Ev.neg (by simpa using d3) (fin (by unfold gx;rw[if_neg c1,if_neg (fun h=>d3 ⟨h.2.2.2.2.2.1,h.2.2.2.2.2.2⟩)]))
     ·rw[H.off x.f1 d1]
      exact Ev.pos (by decide) (fin (by unfold gx;rw[if_neg c1,if_neg (fun h=>d1 ⟨h.2.2.2.1,h.2.2.2.2.1⟩)]))
    ·refine Ev.pos ?_ (fin (by unfold gx;rw[if_neg c1,if_neg (fun h=>d2 ⟨h.2.1,h.2.2.1⟩)]))
     simp only[aa9,Bool.not_eq_true',beq_eq_false_iff_ne,ne_eq]
     by_cases e:x.f2.f0=0
     ·exact .inr (fun e2=>d2 ⟨e,e2⟩)
     ·exact .inl e
   ·exact Ev.neg c2 (fin (by unfold gx;rw[if_neg c1,if_neg (fun h=>c2 h.1)]))
end
end Go.Proofs.Ytahnkgehlfdlkaa.Q
