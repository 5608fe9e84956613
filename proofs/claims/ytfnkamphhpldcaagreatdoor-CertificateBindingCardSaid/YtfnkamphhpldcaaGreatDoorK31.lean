import Derived.Test.YtfnkamphhpldcaaGreatDoorK30
set_option maxHeartbeats 64000000
namespace Sx
open Go
variable {P:Program} {C:Ctx} {ρ:Rho} {h:Hp} {nx:Nat} {w:World}
theorem Sat.swap(s:Sat C ρ h nx w){i:Nat}{b n:SB}(q:lget h i=some (.one b))(B:∀ρ o,b.ok ρ o->n.ok ρ o)(m:n.below nx):Sat C ρ (lput h i (.one n)) nx w:=by
 have A:=s.ne0 q rfl
 have g:∀j k,St.owns (lput h i (.one n)) j k->St.owns h j k:=by
  rintro j k ⟨x,f,l⟩;by_cases e:j=i
  ·subst e;rw[zaf]at f;cases f;exact⟨_,q,l⟩
  ·rw[zac _ _ _ _ e]at f;exact⟨_,f,l⟩
 exact{ s with
  lt:=fun j x f=>by
   by_cases e:j=i
   ·subst e;exact s.lt _ _ q
   ·rw[zac _ _ _ _ e]at f;exact s.lt _ _ f
  blk:=fun j x f k l=>by
   by_cases e:j=i
   ·subst e;rw[zaf]at f;cases f
    obtain⟨o,h1,y⟩:=s.blk _ _ q k l;exact⟨o,h1,B _ _ y⟩
   ·rw[zac _ _ _ _ e]at f;exact s.blk _ _ f k l
  wf:=fun j x f k l=>by
   by_cases e:j=i
   ·subst e;rw[zaf]at f;cases f
    exact m
   ·rw[zac _ _ _ _ e]at f;exact s.wf _ _ f k l
  inj:=fun a b c d h1 y=>s.inj a b c d (g _ _ h1) (g _ _ y)
  own:=fun a b h1=>s.own a b (g _ _ h1)
  fz:=by rw[zac _ _ _ _ (Ne.symm A)];exact s.fz
  only:=fun j F p=>by
   by_cases e:j=i
   ·subst e;rw[zaf]at p;cases p
   ·rw[zac _ _ _ _ e]at p;exact s.only _ _ p
  lnk:=fun j b u=>by
   by_cases e:j=i
   ·subst e;rw[zaf]at u;cases u
   ·rw[zac _ _ _ _ e]at u;exact s.lnk _ _ u }
theorem swapC{f:FuncId}{args:List SV}{K:Out->Hp->Nat->Prop}(i:Nat){b:SB}(c:SB)(g:lget h i=some (.one b))(d:∀ρ o,b.ok ρ o->c.ok ρ o)(a:c.below nx)(j:zbg P f args (lput h i (.one c)) nx K):zbg P f args h nx K:=by
 unfold zbg at*;intro C ρ w vs S k e;exact j C ρ w vs (S.swap g d a) k e
theorem zsa{t sz a:Nat}{L c:List (List SA)}(d:c.length=L.length)(h1:∀x∈c,x.length=sz)(i:∀ρ,c.flatten.map (SA.den ρ)=L.flatten.map (SA.den ρ))(ρ:Rho)(o:Obj)(h:(SB.arr t sz L a).ok ρ o):(SB.arr t sz c a).ok ρ o:=by
 obtain⟨j,e,b,f,g⟩:=h;exact⟨h1,by rw[d];exact e,b,by rw[d];exact f,by rw[i];exact g⟩
theorem z7h{f:FuncId}{args args':List SV}{K:Out->Hp->Nat->Prop}(d:∀ρ vs,relL ρ args vs->relL ρ args' vs)(b:∀n,(∀s∈args,s.below n)->∀s∈args',s.below n)(c:zbg P f args' h nx K):zbg P f args h nx K:=by
 unfold zbg at*;intro C ρ w vs S h1 a;exact c C ρ w vs S (d ρ vs h1) (b nx a)
theorem zot{n:Nat}{a:Out->Fz->List (Nat×Ent)->Nat->Prop}{out out':Out}(f:∀ρ e,out.rel ρ e->out'.rel ρ e)(b:out'.below nx)(c:Cln n a out' h nx):Cln n a out h nx:=by
 unfold Cln at*;intro C ρ w e d S h1 g;exact c C ρ w e d S (f ρ e h1) b
end Sx
namespace Go.Proofs.YtfnkamphhpldcaaGreatDoor
open Go Sx
set_option maxRecDepth 100000
def exD(t:List UInt8)(m:Int):Dc:=⟨[(t,m)],[],0,[]⟩
theorem ze4(t:List UInt8)(m:Int):DcSmall (exD t m):=⟨by show 1<=1000;decide,by show 0<=1000;decide,by show 0<=70000;decide⟩
theorem exAt{F:Fz}{b:Nat}{t:List UInt8}{m:Int}(h:F b=some (.arr 148 2 ([(t,m)].map encN) 1)):DocAt F (.slice false 0 b 0 2 1 1) (.slice true 0 0 0 6 0 0) (exD t m):=
 ⟨false,b,0,1,true,0,0,0,rfl,rfl,Sl.new (l:=[(t,m)]) h,Sl.nil,qg _⟩
theorem zb0(F:Fz)(t:List UInt8)(m:Int):
  Fo Tryz.prog F 45 [.va (.str t),.va (.int .i64 m)] (fun o a=>∃b,o=.ret (.agg (docS (.slice false 0 b 0 2 1 1) (.slice true 0 0 0 6 0 0) 0 []))/\a b=some (.arr 148 2 ([(t,m)].map encN) 1)):=by
 refine fo_of hΘ Tryz.func45 rfl (by decide) _ _ rfl rfl rfl ?_;refine zbc 2 (fun _=>.arr 148 2 ([(t,m)].map encN) 1) rfl rfl rfl (fun _ _=>rfl) (fun _ _=>SB.bB_ok rfl) ?_;intro b a d c;refine zot (out':=.ret (.agg (docS (.slice false 2 0 0 2 1 1) (.slice true 0 0 0 6 0 0) 0 []))) (fun _ _ h=>h) (Out.bB_ok rfl) ?_;exact endFo (.ret (.agg (docS (.slice false 0 (b 0) 0 2 1 1) (.slice true 0 0 0 6 0 0) 0 []))) a rfl d (Fz.r a) ⟨_,rfl,c 0 rfl⟩ (zah _) rfl
