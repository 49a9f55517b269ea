/- The plain law of FnAtomic: after a crash the recovered store is what its kept log says. No condition. -/
import Derived.Test.YtfdpdocbpcnkaaaStoreDraw
import Derived.Test.YtfdpdocbpcnkaaaStoreView
import Derived.Test.YtfdpdocbpcnkaaaStoreAtom
import Derived.Test.YtfdpdocbpcnkaaaG8
import Derived.Test.YtfdpdocbpcnkaaaG6
open Bool renaming false_ne_true→aaN
open List renaming length_take→bx
open Nat renaming zero_le→aaH,not_lt_zero→aa3
namespace Go.Proofs.Ytfdpdocbpcnkaaa.Q
open Go.RowKit Go.Proofs.YtfdpdocbpcnkaaaW.PrintWords Go.Proofs.Ytfdpdocbpcnkaaa.G
set_option linter.unusedVariables false
set_option linter.unusedSimpArgs false
theorem I4(l:List ByteArray)(hl:l.length≤2000000):Ev (fun k=>eV.f k l l) true:=by
 have key:∀d i,l.length-i=d→i≤l.length→Ev (fun k=>eV.l0 k l l (l.length:Int) (i:Int)) true:=by
  intro d
  induction d with
  |zero=>
   intro i hd hi;exact Ev.step (fun k=>by rw[eV.l0]) (Ev.neg (by omega) (Ev.now _))
  |succ d ih=>
   intro i hd hi;refine Ev.step (fun k=>by rw[eV.l0]) (Ev.pos (by omega) (Ev.pos (by omega) (Ev.pos (by omega) (Ev.pos (by omega) (Ev.pos rfl ?_)))));rw[show wrap64 ((i:Int)+1)=((i+1:Nat):Int) by rw[dO (by omega) (by omega)];rfl];exact ih (i+1) (by omega) (by omega)
 unfold eV.f;exact Ev.pos rfl (key l.length 0 rfl (aaH _))
theorem Ym(l:List Wr)(hl:l.length≤2000000):Ev (fun k=>iF.f k l l) true:=by
 have key:∀d i,l.length-i=d→i≤l.length→Ev (fun k=>iF.l0 k l l (l.length:Int) (i:Int)) true:=by
  intro d
  induction d with
  |zero=>
   intro i hd hi;exact Ev.step (fun k=>by rw[iF.l0]) (Ev.neg (by omega) (Ev.now _))
  |succ d ih=>
   intro i hd hi;refine Ev.step (fun k=>by rw[iF.l0]) (Ev.pos (by omega) (Ev.pos (by omega) (Ev.pos (by omega) (Ev.pos (by omega) (Ev.neg (by simp) ?_)))));rw[show wrap64 ((i:Int)+1)=((i+1:Nat):Int) by rw[dO (by omega) (by omega)];rfl];exact ih (i+1) (by omega) (by omega)
 unfold iF.f;exact Ev.pos rfl (key l.length 0 rfl (aaH _))
theorem RL(S:List ByteArray)(P:List Wr)(L:List ByteArray)(n:Int)(hS:S.length≤2000000)(hP:P.length≤2000000)(hL:L.length≤2000000):Ev (fun k=>lG.f k S P L n S P L n) true:=by
 unfold lG.f;exact Ev.pos rfl (Ev.bind' _ (I4 L hL) (Ev.pos rfl (Ev.bind' _ (I4 S hS) (Ev.pos rfl (Ev.bind' _ (Ym P hP) (Ev.now _))))))
theorem SL(l:List Int)(hl:o0 l):∀ (d:Nat) (n:Int) (K:List Bool) (p q:Int),n.toNat=d→n≤1000→K.length+d≤2000→0≤p→p+2*(d:Int)<2000000000000000000→
 ∃r p' q',Ev (fun k=>gg.l0 k n K l p q) (r,p',q')∧r.length≤2000∧p≤p'∧p'≤p+2*(d:Int)
 |0,n,K,p,q,hd,_,hK,_,_=>⟨K,p,q,Ev.step (fun k=>by rw[gg.l0]) (Ev.neg (by omega) (Ev.now _)),by omega,by omega,by omega⟩
 |d+1,n,K,p,q,hd,hn,hK,h0,h1=>by
  obtain⟨v,p1,q1,e1,a1,b1⟩:=BW l hl p q 2 h0 (by omega) (by omega);obtain⟨r,p',q',e,hr,ha,hb⟩:=SL l hl d (n-1) (K++[v]) p1 q1 (by omega) (by omega) (by rw[List.length_append,List.length_singleton];omega) (by omega) (by omega);refine⟨r,p',q',Ev.step (fun k=>by rw[gg.l0]) (Ev.pos (by omega) (Ev.cn _ e1 (Ev.pos (show K.length<140737488355328 by omega) ?_))),hr,by omega,by omega⟩;rw[show wrap64 (n-1)=n-1 from dO (by omega) (by omega)];exact e
abbrev CS:=List ByteArray×List Wr×List ByteArray×Int×List Bool×Int
theorem Z2(l:List Int)(hl:o0 l):∃r:CS,Ev (fun k=>iv.f k l) r∧r.1.length≤100∧r.2.1.length≤61∧r.2.2.1.length≤41∧ja r.2.2.1∧r.2.2.2.2.1.length≤2000:=by
 obtain⟨⟨S,P,L,n,p,q⟩,es,h1,h2,h3,h4,h5,h6⟩:=ZA l hl;simp only at h1 h2 h3 h4 h5 h6;obtain⟨v,p1,q1,e1,a1,b1⟩:=BW l hl p q 20 h5 (by omega) (by omega)
 have fin:∀ (m:Int),m≤100→∃ (K:List Bool) (g:Int),K.length≤2000∧Ev (fun k=>(gg.f k l p1 q1 m).bind fun rL=>((dj.f l rL.2.1 rL.2.2 4).bind fun rM=>((dj.f l rM.2.1 rM.2.2 2).bind fun Eo=>(some (S,P,L,n,rL.1,wrap64 ((wrap64 (n+rM.1))-Eo.1)))))) ((S,P,L,n,K,g):CS):=fun m hm=>by
  obtain⟨K,p2,q2,e2,hK,a2,b2⟩:=SL l hl m.toNat m [] p1 q1 rfl (by omega) (by simp only[List.length_nil];omega) (by omega) (by omega);obtain⟨u,p3,q3,e3,a3,b3,_⟩:=qI l hl p2 q2 4 (by omega) (by omega) (by omega);obtain⟨x,p4,q4,e4,_⟩:=qI l hl p3 q3 2 (by omega) (by omega) (by omega);exact⟨K,_,hK,Ev.bind' _ e2 (Ev.cn _ e3 (Ev.cn _ e4 (Ev.now _)))⟩
 cases v with
 |true=>
  obtain⟨K,g,hK,e⟩:=fin (wrap64 ((P.length:Int)+1)) (by rw[dO (by omega) (by omega)];omega);refine⟨(S,P,L,n,K,g), ?_,h1,h2,h3,h4,hK⟩;unfold iv.f;exact Ev.bind' _ es (Ev.cn _ e1 (Ev.pos rfl e))
 |false=>
  obtain⟨K,g,hK,e⟩:=fin (P.length:Int) (by omega);refine⟨(S,P,L,n,K,g), ?_,h1,h2,h3,h4,hK⟩;unfold iv.f;exact Ev.bind' _ es (Ev.cn _ e1 (Ev.neg aaN e))
theorem FnAtomic:dE.Pure:=by
 intro l0 ho;have hb:=a0K ho.2
 suffices h:Ev (fun k=>dE.f k l0) true by
  obtain⟨K,h⟩:=h;exact⟨K,h K (Nat.le_refl _)⟩
 unfold dE.f;refine Ev.ite (fun _=>Ev.now _) (fun _=> ?_);obtain⟨⟨S,P,L,n,K,g⟩,ed,h1,h2,h3,h4,h5⟩:=Z2 l0 hb;simp only at h1 h2 h3 h4 h5;obtain⟨cs,ci⟩:=Ry S P L n K g (by omega) (by omega) (by omega) (by omega) h4;have vi:=D5 S P L n (by omega) (by omega) (by omega) h4;have vs:=RX S P L n (by omega) (by omega) (by omega) h4;have gi:=LE S P L n (by omega) (by omega) (by omega) h4
 have lenC:(mS S P L n K g).1.length≤2000000∧(mS S P L n K g).2.1.length≤2000000∧(mS S P L n K g).2.2.1.length≤2000000:=by
  by_cases c:uW S P L n K g
  ·rw[D6 c]
   dsimp only;rw[ku,bx];refine⟨by omega,by simp,by omega⟩
  ·rw[Ak c]
   simp
 have lenV:(tc S P L n).1.length≤2000000:=by
  by_cases c:ep S P L n
  ·rw[uc c]
   show(lJ S P L).length≤2000000
   rw[D9];omega
  ·rw[Al c];simp
 have same:(sJ S P L n !=(tc S P L n).2)=false:=by
  by_cases c:ep S P L n
  ·rw[uc c,N8 c];rfl
  ·rw[Al c,xt c];rfl
 refine Ev.bind' _ ed (Ev.bind' _ ci (Ev.bind' _ cs (Ev.bind' _ vi (Ev.bind' _ vs (Ev.neg (by simp) (Ev.bind' _ (RL _ _ _ _ lenC.1 lenC.2.1 lenC.2.2) (Ev.pos rfl (Ev.neg (by simp) (Ev.bind' _ (I4 _ lenV) (Ev.pos rfl (Ev.bind' _ gi ?_)))))))))))
 show Ev (fun k=>dE.j0 k g (mS S P L n K g).2.2.2.2 (sJ S P L n !=(tc S P L n).2) S P L n (mS S P L n K g).1 (mS S P L n K g).2.1 (mS S P L n K g).2.2.1 (mS S P L n K g).2.2.2.1) true
 rw[same];refine Ev.step (fun k=>by rw[dE.j0]) (Ev.neg aaN ?_)
 by_cases c:uW S P L n K g
 ·have hcr:=ZF c
  have hn:=c.1.1.2.2;have hg:=c.2.1
  have hlen:((L.take g.toNat).length:Int)=g:=by rw[bx];omega
  have hview:=ZG c;have hcut:=a0L c.1 hg.1 hg.2;have hpl:=ZH hcr;rw[D6 c];dsimp only;have r1:=Ws (d4 S (jN P K P.length)) [] (L.take g.toNat) g (by rw[ku];omega) (aaH _) (by rw[bx];omega) (Am h4 _);rw[Lz hcr hlen.symm]at r1
  have hVl:(lJ (d4 S (jN P K P.length)) [] (L.take g.toNat)).length≤100:=by rw[D9,ku];exact h1
  have r2:=D5 (lJ (d4 S (jN P K P.length)) [] (L.take g.toNat)) [] [] 0 (by omega) (aaH _) (aaH _) (fun i hi=>absurd hi (aa3 _));rw[uc hpl,Rg]at r2;have r3:=D5 S P (L.take g.toNat) n (by omega) (by omega) (by rw[bx];omega) (Am h4 _);rw[uc hcut,←hview]at r3;have r4:=Ws (lJ (d4 S (jN P K P.length)) [] (L.take g.toNat)) [] [] 0 (by omega) (aaH _) (aaH _) (fun i hi=>absurd hi (aa3 _));rw[Lz hpl rfl,Rg]at r4;refine Ev.pos rfl (Ev.bind' _ r1 (Ev.bind' _ r2 (Ev.pos (by omega) (Ev.pos (by omega) (Ev.bind' _ r3 (Ev.pos rfl (Ev.pos rfl (Ev.pos rfl (Ev.bind' _ (I4 (lJ (d4 S (jN P K P.length)) [] (L.take g.toNat)) (by omega)) (Ev.pos rfl (Ev.pos rfl ?_)))))))))));refine Ev.step (fun k=>by rw[dE.j1]) (Ev.neg (by simp) (Ev.bind' _ r4 (Ev.pos rfl (Ev.bind' _ (RL (lJ (d4 S (jN P K P.length)) [] (L.take g.toNat)) [] [] 0 (by omega) (aaH _) (aaH _)) (Ev.now _)))))
 ·rw[Ak c]
  exact Ev.neg aaN (Ev.now' rfl)
end Go.Proofs.Ytfdpdocbpcnkaaa.Q
