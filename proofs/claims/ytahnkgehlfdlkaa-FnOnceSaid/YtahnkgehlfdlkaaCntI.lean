/- Counting, and the lengths of extents in order. No statement. -/
import Derived.Test.YtahnkgehlfdlkaaIntGive
namespace Go.Proofs.Ytahnkgehlfdlkaa.Q
open Go.RowKit Go.Proofs.YtahnkgehlfdlkaaW.PrintWords Go.Proofs.Ytahnkgehlfdlkaa.G
set_option linter.unusedVariables false
set_option linter.unusedSimpArgs false
open Classical in
noncomputable def kb(P:Nat→Prop):Nat→Int
 |0=>0
 |n+1=>kb P n+if P n then 1 else 0
theorem OP {P Q:Nat→Prop}:∀N,(∀n,n<N→(P n↔Q n))→kb P N=kb Q N
 |0,_=>rfl
 |N+1,h=>by
  rw[kb,kb,OP N (fun n hn=>h n (by omega))]
  by_cases c:P N
  ·rw[if_pos c,if_pos ((h N (by omega)).1 c)]
  ·rw[if_neg c,if_neg (fun q=>c ((h N (by omega)).2 q))]
theorem cnt_mono {P Q:Nat→Prop}:∀N,(∀n,n<N→P n→Q n)→kb P N≤kb Q N
 |0,_=>Int.le_refl _
 |N+1,h=>by
  have:=cnt_mono N (fun n hn=>h n (by omega));rw[kb,kb]
  by_cases c:P N
  ·rw[if_pos c,if_pos (h N (by omega) c)];omega
  ·rw[if_neg c]
   by_cases d:Q N
   ·rw[if_pos d];omega
   ·rw[if_neg d];omega
theorem Vy {P Q:Nat→Prop}:∀N,(∀n,n<N→P n→¬Q n)→kb (fun n=>P n∨Q n) N=kb P N+kb Q N
 |0,_=>rfl
 |N+1,h=>by
  have:=Vy N (fun n hn=>h n (by omega));rw[kb,kb,kb,this]
  by_cases c:P N
  ·rw[if_pos (.inl c),if_pos c,if_neg (h N (by omega) c)];omega
  ·rw[if_neg c]
   by_cases d:Q N
   ·rw[if_pos (.inr d),if_pos d];omega
   ·rw[if_neg (fun q=>q.elim c d),if_neg d];omega
theorem cnt_none {P:Nat→Prop}:∀N,(∀n,n<N→¬P n)→kb P N=0
 |0,_=>rfl
 |N+1,h=>by rw[kb,cnt_none N (fun n hn=>h n (by omega)),if_neg (h N (by omega))];rfl
theorem Vx(P:Nat→Prop):∀N,0≤kb P N∧kb P N≤(N:Int)
 |0=>⟨Int.le_refl _,Int.le_refl _⟩
 |N+1=>by
  have:=Vx P N;rw[kb]
  by_cases c:P N
  ·rw[if_pos c];omega
  ·rw[if_neg c];omega
theorem Vg(a b:Int)(h0:0≤a)(h1:0≤b):∀N:Nat,kb (fun n=>a≤(n:Int)∧(n:Int)<a+b) N=if(N:Int)≤a then 0 else if(N:Int)≤a+b then(N:Int)-a else b
 |0=>by rw[kb,if_pos (by omega)]
 |N+1=>by
  rw[kb,Vg a b h0 h1 N]
  by_cases c:a≤(N:Int)∧(N:Int)<a+b
  ·rw[if_pos c,if_neg (show¬((N+1:Nat):Int)≤a by omega),if_pos (show((N+1:Nat):Int)≤a+b by omega)]
   by_cases d:(N:Int)≤a
   ·rw[if_pos d];omega
   ·rw[if_neg d,if_pos (by omega)];omega
  ·rw[if_neg c]
   by_cases d:(N:Int)≤a
   ·rw[if_pos d]
    by_cases e:((N+1:Nat):Int)≤a
    ·rw[if_pos e];rfl
    ·rw[if_neg e]
     by_cases f:((N+1:Nat):Int)≤a+b
     ·omega
     ·rw[if_neg f];omega
   ·rw[if_neg d,if_neg (show¬((N+1:Nat):Int)≤a by omega),if_neg (show¬((N+1:Nat):Int)≤a+b by omega)]
    by_cases f:(N:Int)≤a+b
    ·rw[if_pos f];omega
    ·rw[if_neg f];omega
def tU(l:List Ex):Nat→Int
 |0=>0
 |i+1=>tU l i+(l.getD i ez).f1
theorem To {N:Nat}{l:List Ex}(h:sR (N:Int) l):∀i,i≤l.length→tU l i=kb (fun b=>∃j,j<i∧fW (l.getD j ez) b) N
 |0,_=>(cnt_none N fun b _=>by
   rintro⟨j,h,_⟩
   omega).symm
 |i+1,hi=>by
  have hr:=h.1 i (by omega);unfold k7 at hr
  have e:kb (fun b=>∃j,j<i+1∧fW (l.getD j ez) b) N=kb (fun b:Nat=>(∃j,j<i∧fW (l.getD j ez) b)∨((l.getD i ez).f0≤(b:Int)∧(b:Int)<(l.getD i ez).f0+(l.getD i ez).f1)) N:=OP N fun b _=>by
   constructor
   ·rintro⟨j,h1,h2⟩
    by_cases e:j=i
    ·subst e;exact .inr h2
    ·exact .inl ⟨j,by omega,h2⟩
   ·rintro(⟨j,h1,h2⟩|h2)
    ·exact⟨j,by omega,h2⟩
    ·exact⟨i,by omega,h2⟩
  rw[tU,To h i (by omega),e,Vy N (fun b _=>by
   rintro⟨j,h1,h2⟩ h3;have h4:=QD h j i h1 (by omega);unfold fW at h2
   omega),Vg _ _ (by omega) (by omega),if_neg (by omega)]
  by_cases d:(N:Int)≤(l.getD i ez).f0+(l.getD i ez).f1
  ·rw[if_pos d];omega
  ·rw[if_neg d]
theorem eSum_all {N:Nat}{l:List Ex}(h:sR (N:Int) l):tU l l.length=kb (fun b=>fh l b) N:=by
 rw[To h _ (Nat.le_refl _)]
 exact OP N fun b _=>by
  constructor
  ·rintro⟨j,h1,h2⟩
   exact⟨_,Cv l j ez h1,h2⟩
  ·rintro⟨e,he,h2⟩
   obtain⟨j,h1,rfl⟩:=Tn ez he;exact⟨j,h1,h2⟩
theorem eSum_le {N:Nat}{l:List Ex}(h:sR (N:Int) l)(i:Nat)(hi:i≤l.length):0≤tU l i∧tU l i≤(N:Int):=by
 rw[To h i hi];exact Vx _ N
end Go.Proofs.Ytahnkgehlfdlkaa.Q
