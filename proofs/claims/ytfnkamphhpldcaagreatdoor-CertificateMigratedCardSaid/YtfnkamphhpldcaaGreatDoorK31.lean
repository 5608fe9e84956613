import Derived.Test.YtfnkamphhpldcaaGreatDoorK30
set_option maxHeartbeats 64000000
namespace Go.Proofs.YtfnkamphhpldcaaGreatDoor
open Go Sx
set_option maxRecDepth 100000
def exD (t:List UInt8) (m:Int):Dc:=⟨[(t,m)],[],0,[]⟩
theorem zey (t:List UInt8) (m:Int):DcSmall (exD t m):=⟨by show 1 ≤ 1000; decide,by show 0 ≤ 1000; decide,by show 0 ≤ 70000; decide⟩
theorem exAt {F:Fz} {b:Nat} {t:List UInt8} {m:Int} (h:F b = some (.arr 148 2 ([(t,m)].map encN) 1)):DocAt F (.slice false 0 b 0 2 1 1) (.slice true 0 0 0 6 0 0) (exD t m):=
 ⟨false,b,0,1,true,0,0,0,rfl,rfl,Sl.new (l:=[(t,m)]) h,Sl.nil,qm _⟩
theorem zbv (F:Fz) (t:List UInt8) (m:Int) :
  Fo Tryz.prog F 45 [.va (.str t),.va (.int .i64 m)] (fun o a=>∃ b,o = .ret (.agg (docS (.slice false 0 b 0 2 1 1) (.slice true 0 0 0 6 0 0) 0 [])) ∧ a b = some (.arr 148 2 ([(t,m)].map encN) 1)):=by
 refine fo_of hΘ Tryz.func45 rfl (by decide) _ _ rfl rfl rfl ?_;refine zbn 2 (fun _=>.arr 148 2 ([(t,m)].map encN) 1) rfl rfl rfl (fun _ _=>rfl) (fun _ _=>SB.bB_ok rfl) ?_;intro b a c d;refine zn6 (out':=.ret (.agg (docS (.slice false 2 0 0 2 1 1) (.slice true 0 0 0 6 0 0) 0 []))) (fun _ _ h=>h) (Out.bB_ok rfl) ?_;exact endFo (.ret (.agg (docS (.slice false 0 (b 0) 0 2 1 1) (.slice true 0 0 0 6 0 0) 0 []))) a rfl c (Fz.r a) ⟨_,rfl,d 0 rfl⟩ (zah _) rfl
end Go.Proofs.YtfnkamphhpldcaaGreatDoor
