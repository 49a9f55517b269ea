/- What is left of a map that is punched, and what comes out: both sides alike, by cells. No statement. -/
import Derived.Test.YtjojdplkgekagaaMapPutG
import Derived.Test.YtjojdplkgekagaaMapParts
import Derived.Test.YtjojdplkgekagaaMapStretch
import Derived.Test.YtjojdplkgekagaaMapBlocks
import Derived.Test.YtjojdplkgekagaaG4
import Derived.Test.YtjojdplkgekagaaG6
open List renaming length_take→ao,length_drop→gy,length_append→lK,getD_eq_getElem?_getD→vn,getElem?_take→aaw,replicate→aaA,getElem?_drop→aaD,getElem?_append_left→aaP,getElem?_append_right→aaU
namespace Go.Proofs.Ytjojdplkgekagaa.Q
open Go.RowKit Go.Proofs.YtjojdplkgekagaaW.PrintWords Go.Proofs.Ytjojdplkgekagaa.G
set_option linter.unusedVariables false
set_option linter.unusedSimpArgs false
theorem Mn(l:List Pc)(a b:Nat)(h:a+b≤200):(((cellsOf l).take (a+b)).drop a).length=b:=by
 rw[gy,ao,nM];omega
theorem Mo(l:List Pc)(a b n:Nat)(h:a+b≤200)(hn:n<b):(((cellsOf l).take (a+b)).drop a).getD n dO=bD l (a+n):=by
 rw[←uc l (a+n) (by omega)];simp only[vn,aaD,aaw];rw[if_pos (by omega)]
theorem Pp(l:List Pc)(a b:Nat)(h:a+b≤200):((cellsOf l).take a++List.replicate b dO++(cellsOf l).drop (a+b)).length=200:=by
 rw[lK,lK,ao,List.length_replicate,gy,nM];omega
theorem cleared_get(l:List Pc)(a b n:Nat)(h:a+b≤200)(hn:n<200):((cellsOf l).take a++List.replicate b dO++(cellsOf l).drop (a+b)).getD n dO=if a≤n∧n<a+b then dO else bD l n:=by
 have e:=uc l n hn;have hl:=nM l;simp only[vn]at e⊢
 have h1:((cellsOf l).take a).length=a:=by rw[ao];omega
 have h2:((cellsOf l).take a++aaA b dO).length=a+b:=by rw[lK,h1,List.length_replicate]
 by_cases c1:n<a
 ·rw[if_neg (by omega),aaP (by omega),aaP (by omega),aaw,if_pos c1]
  exact e
 ·by_cases c2:n<a+b
  ·rw[if_pos (by omega),aaP (by omega),aaU (by omega),h1,List.getElem?_replicate,if_pos (by omega)]
   rfl
  ·rw[if_neg (by omega),aaU (by omega),h2,aaD,show a+b+(n-(a+b))=n by omega]
   exact e
def Mk(l:List Pc)(a b:Int)(r:List Pc×List Ex×Bool):Prop:=dh l∧o1 a b∧dh r.1∧(∀n:Nat,bD r.1 n=if a≤(n:Int)∧(n:Int)<a+b then dO else bD l n)∧jO 400 r.2.1∧∀c:Nat,gm r.2.1 c↔ ∃n:Nat,(a≤(n:Int)∧(n:Int)<a+b)∧(bD l n).f0=true∧(bD l n).f1=(c:Int)
theorem XA(l:List Pc)(a b:Int)(hl:l.length≤1048576):∃r,Ev (fun k=>gM.f k l a b) r∧Ev (fun k=>ox.f k l a b) r∧r.1.length≤2000000∧r.2.1.length≤2000000∧(r.2.2=true→Mk l a b r):=by
 have g1:=vo l hl;have n1:Ev (fun k=>gM.j0 k a b true l) ([],[],false):=Ev.step (fun k=>by rw[gM.j0]) (Ev.pos rfl (Ev.now _));obtain⟨x,hx1,hx2⟩:=XP a b;obtain⟨y,hy1,hy2⟩:=XQ l hl a b;unfold gM.f ox.f
 by_cases hg:dh l
 ·by_cases hs:o1 a b
  ·obtain rfl:x=true:=hx2.2 hs
   obtain rfl:y=true:=hy2.2 ⟨hg,hs⟩;have hc:=rn hg.2;unfold o1 at hs;obtain⟨a',rfl⟩:∃a':Nat,a=(a':Int):=⟨a.toNat,by omega⟩;obtain⟨b',rfl⟩:∃b':Nat,b=(b':Int):=⟨b.toNat,by omega⟩;obtain⟨o,q,hcut,inv⟩:=SB l hc (a':Int) (b':Int) (by omega) (by omega) (by omega);obtain⟨E,hE1,hE2,Pl⟩:=XK hg (by omega) (by omega) inv
   have hab:a'+b'≤200:=by omega
   have hol:=oz inv.co.1
   have hmap:=M8 ((cellsOf l).take a'++aaA b' dO++(cellsOf l).drop (a'+b')) o inv.co (by rw[Pp l _ _ hab];omega) (fun i hi=>by
    rw[Pp l _ _ hab];have h2:=inv.co.1.1 i hi;unfold eM at h2
    omega) (fun n hn=>by
    rw[Pp l _ _ hab]at hn;rw[cleared_get l _ _ _ hab hn,Ec hc inv n]
    by_cases e:a'≤n∧n<a'+b'
    ·rw[if_pos e,if_pos (by omega)]
    ·rw[if_neg e,if_neg (by omega)])
   have hblk:=Pq (((cellsOf l).take (a'+b')).drop a') (by rw[Mn l _ _ hab];omega) (fun n hn hf=>by
    rw[Mn l _ _ hab]at hn;rw[Mo l _ _ _ hab hn]at hf⊢
    exact Lg hc.1 _ hf) E hE2 (fun b hb=>by
    rw[Pl b,Mn l _ _ hab]
    constructor
    ·rintro⟨n,hin,hf,e⟩
     refine⟨n-a',by omega, ?_, ?_⟩
     ·rw[Mo l _ _ _ hab (by omega),show a'+(n-a')=n by omega];exact hf
     ·rw[Mo l _ _ _ hab (by omega),show a'+(n-a')=n by omega];exact e
    ·rintro⟨n,hn,hf,e⟩
     rw[Mo l _ _ _ hab hn]at hf e
     exact⟨a'+n,by omega,hf,e⟩)
   have hel:=E2 hE2.1;refine⟨if dh o then(o,E,true)else([],[],false), ?_, ?_, ?_, ?_, ?_⟩
   ·refine Ev.bind' _ g1 (Ev.pos (by simpa using hg) (Ev.cW true hx1 ?_))
    refine Ev.step (fun k=>by rw[gM.j0]) (Ev.neg (by simp) (Ev.bind' _ hcut (Ev.bind' _ (vo o (by omega)) ?_)))
    by_cases hgo:dh o
    ·rw[if_pos hgo]
     exact Ev.pos (decide_eq_true hgo) (Ev.bind' _ hE1 (Ev.now _))
    ·rw[if_neg hgo]
     exact Ev.neg (by simpa using hgo) (Ev.now _)
   ·refine Ev.bind' _ hy1 (Ev.pos rfl (Ev.bind' _ (EF l hg.2 hl) ?_))
    rw[bg (x:=(a':Int)+(b':Int)) (by omega) (by omega),nM,show((a':Int)+(b':Int)).toNat=a'+b' by omega,Int.toNat_natCast];refine Ev.pos (by omega) (Ev.pos (by omega) (Ev.pos (by omega) (Ev.cW _ rfl (Ev.bind' _ hblk ?_))));rw[Mn l _ _ hab];refine Ev.bind' _ hmap ?_
    by_cases hgo:dh o
    ·rw[if_pos hgo,if_pos hgo]
     exact Ev.pos rfl (Ev.now _)
    ·rw[if_neg hgo,if_neg hgo]
     exact Ev.neg (by simp) (Ev.now _)
   ·by_cases hgo:dh o
    ·rw[if_pos hgo];show o.length≤2000000;omega
    ·rw[if_neg hgo];simp
   ·by_cases hgo:dh o
    ·rw[if_pos hgo];show E.length≤2000000;omega
    ·rw[if_neg hgo];simp
   ·by_cases hgo:dh o
    ·rw[if_pos hgo]
     exact fun _=>⟨hg,by unfold o1;omega,hgo,fun n=>Ec hc inv n,hE2,Pl⟩
    ·rw[if_neg hgo];exact fun h=>by cases h
  ·obtain rfl:x=false:=by
    cases x with
    |false=>rfl
    |true=>exact absurd (hx2.1 rfl) hs
   obtain rfl:y=false:=by
    cases y with
    |false=>rfl
    |true=>exact absurd (hy2.1 rfl).2 hs
   exact⟨([],[],false),Ev.bind' _ g1 (Ev.pos (by simpa using hg) (Ev.cW _ hx1 n1)),Ev.bind' _ hy1 (Ev.neg (by simp) (Ev.now _)),by simp,by simp,fun h=>by cases h⟩
 ·obtain rfl:y=false:=by
   cases y with
   |false=>rfl
   |true=>exact absurd (hy2.1 rfl).1 hg
  exact⟨([],[],false),Ev.bind' _ g1 (Ev.neg (by simpa using hg) n1),Ev.bind' _ hy1 (Ev.neg (by simp) (Ev.now _)),by simp,by simp,fun h=>by cases h⟩
theorem punch_ok(l:List Pc)(hg:dh l)(a b:Int):∃r,Ev (fun k=>gM.f k l a b) r∧(r.2.2=true→dh r.1):=by
 obtain⟨r,h,_,_,_,hk⟩:=XA l a b (by have:=hg.1;omega);exact⟨r,h,fun e=>(hk e).2.2.1⟩
end Go.Proofs.Ytjojdplkgekagaa.Q
