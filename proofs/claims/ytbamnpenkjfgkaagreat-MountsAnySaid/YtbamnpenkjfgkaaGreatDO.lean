/- Objects of the run. -/
import Derived.Test.YtbamnpenkjfgkaaGreatN0
namespace Go.Proofs.YtbamnpenkjfgkaaGreat
open Go.Ex Go.Proofs
set_option maxRecDepth 1000000
theorem fnw {ρ : Env} {f : FuncId} (hf : (Tryz.F.get f).isSome=true) : CfOK Tryz.prog ρ f (fnC Tryz.T Tryz.F f):=fnC_ok mixed Tryz.T_ok Tryz.F_ok hf
noncomputable section
def z0 : V:=.str 128 0
def z1 : V:=.bool false
def z2 : V:=.bool true
def z3 : V:=.int .i64 0
def z4 (n : Nat) : V:=.str 128 n
def z5 (n : Nat) : V:=.int .i64 n
def zh : Nat:=4611686018427387904
def trA (n : Nat) (v : V) (l : List (Nat × V)) : Tr V:=List.rec (motive:=fun _=>Tr V) (Nat.rec (motive:=fun _=>Tr V) .lf (fun i ih=>Tr.set ih i v) n) (fun x _ ih=>Tr.set ih x.1 x.2) l
def Dob0 : O:=rowOf 6 (.cons (.slc (q 4) 0 256 256) (.cons (.slc (q 8) 0 256 zh) (.cons (.slc (q 5) 0 256 256) (.cons z1 (.cons z3 (.cons z3 .nil)))))) 65 none
def Dob1 : O:=rowOf 6 (.cons (.slc (q 4) 0 256 256) (.cons (.slc (q 8) 0 256 zh) (.cons (.slc (q 5) 0 256 256) (.cons z1 (.cons (.neg .i64 129) (.cons (z5 130) .nil)))))) 65 none
def Dob2 : O:=.big 256 256 (repV 256 z0) (trL [(1,(z4 1105807952967)),(3,z0),(7,z0),(15,z0),(31,z0),(63,z0),(127,z0),(95,z0),(47,z0),(79,z0),(111,z0),(23,z0),(39,z0),(71,z0),(103,z0),(55,z0),(87,z0),(119,z0),(11,z0),(19,z0),(35,z0),(67,z0),(99,z0),(51,z0),(83,z0),(115,z0),(27,z0),(43,z0),(75,z0),(107,z0),(59,z0),(91,z0),(123,z0),(5,z0),(9,z0),(17,z0),(33,z0),(65,z0),(97,z0),(49,z0),(81,z0),(113,z0),(25,z0),(41,z0),(73,z0),(105,z0),(57,z0),(89,z0),(121,z0),(13,z0),(21,z0),(37,z0),(69,z0),(101,z0),(53,z0),(85,z0),(117,z0),(29,z0),(45,z0),(77,z0),(109,z0),(61,z0),(93,z0),(125,z0),(2,z0),(4,z0),(8,z0),(16,z0),(32,z0),(64,z0),(128,z0),(96,z0),(48,z0),(80,z0),(112,z0),(24,z0),(40,z0),(72,z0),(104,z0),(56,z0),(88,z0),(120,z0),(12,z0),(20,z0),(36,z0),(68,z0),(100,z0),(52,z0),(84,z0),(116,z0),(28,z0),(44,z0),(76,z0),(108,z0),(60,z0),(92,z0),(124,z0),(6,z0),(10,z0),(18,z0),(34,z0),(66,z0),(98,z0),(50,z0),(82,z0),(114,z0),(26,z0),(42,z0),(74,z0),(106,z0),(58,z0),(90,z0),(122,z0),(14,z0),(22,z0),(38,z0),(70,z0),(102,z0),(54,z0),(86,z0),(118,z0),(30,z0),(46,z0),(78,z0),(110,z0),(62,z0),(94,z0),(126,z0)]) 9 (some 1)
def Dob3 : O:=.big 256 1 (.cons (.str 0 0) .nil) (trA 256 z0 [(1,(z4 1105807952967))]) 9 none
def Dob4 : O:=rowOf 6 (.cons (.slc (q 4) 0 256 256) (.cons (.slc (q 8) 0 256 zh) (.cons (.slc (q 5) 0 256 256) (.cons z1 (.cons (.neg .i64 131) (.cons (z5 132) .nil)))))) 65 none
def Dm0 : Nat:=195841219405063249984802480098244429259836364516455
def Dob5 : O:=.big 256 256 (repV 256 z0) (trL [(0,(z4 Dm0)),(1,(z4 1105807952967)),(3,z0),(7,z0),(15,z0),(31,z0),(63,z0),(127,z0),(95,z0),(47,z0),(79,z0),(111,z0),(23,z0),(39,z0),(71,z0),(103,z0),(55,z0),(87,z0),(119,z0),(11,z0),(19,z0),(35,z0),(67,z0),(99,z0),(51,z0),(83,z0),(115,z0),(27,z0),(43,z0),(75,z0),(107,z0),(59,z0),(91,z0),(123,z0),(5,z0),(9,z0),(17,z0),(33,z0),(65,z0),(97,z0),(49,z0),(81,z0),(113,z0),(25,z0),(41,z0),(73,z0),(105,z0),(57,z0),(89,z0),(121,z0),(13,z0),(21,z0),(37,z0),(69,z0),(101,z0),(53,z0),(85,z0),(117,z0),(29,z0),(45,z0),(77,z0),(109,z0),(61,z0),(93,z0),(125,z0),(2,z0),(4,z0),(8,z0),(16,z0),(32,z0),(64,z0),(128,z0),(96,z0),(48,z0),(80,z0),(112,z0),(24,z0),(40,z0),(72,z0),(104,z0),(56,z0),(88,z0),(120,z0),(12,z0),(20,z0),(36,z0),(68,z0),(100,z0),(52,z0),(84,z0),(116,z0),(28,z0),(44,z0),(76,z0),(108,z0),(60,z0),(92,z0),(124,z0),(6,z0),(10,z0),(18,z0),(34,z0),(66,z0),(98,z0),(50,z0),(82,z0),(114,z0),(26,z0),(42,z0),(74,z0),(106,z0),(58,z0),(90,z0),(122,z0),(14,z0),(22,z0),(38,z0),(70,z0),(102,z0),(54,z0),(86,z0),(118,z0),(30,z0),(46,z0),(78,z0),(110,z0),(62,z0),(94,z0),(126,z0)]) 9 (some 1)
def Dob6 : O:=.big 256 1 (.cons (.str 0 0) .nil) (trA 256 z0 [(0,(z4 Dm0)),(1,(z4 1105807952967))]) 9 none
def Dob7 : O:=rowOf 17 (.cons (.ptr (q 6) 0) (.cons (z5 256) (.cons (z5 128) (.cons (z5 8) (.cons (z5 1) (.cons (z5 129) (.cons (z5 1) (.cons (z5 130) (.cons (z5 4) (.cons (z5 134) (.cons (.ptr (q 1099) 0) (.cons (.ptr (q 1097) 0) (.cons (.map (q 1101)) (.cons (.map (q 1102)) (.cons (.map (q 1103)) (.cons .nptr (.cons z3 .nil))))))))))))))))) 120 none
def Dob8 : O:=rowOf 15 (.cons z2 (.cons (.ptr (q 6) 0) (.cons (z5 256) (.cons (z5 128) (.cons (z5 8) (.cons (z5 1) (.cons (z5 129) (.cons (z5 1) (.cons (z5 130) (.cons (z5 4) (.cons (z5 134) (.cons z3 (.cons z3 (.cons (.int .u64 1) (.cons z3 .nil))))))))))))))) 201 none
def Dob9 : O:=rowOf 6 (.cons (.ptr (q 6) 0) (.cons (z5 256) (.cons z3 (.cons (.slc (q 1098) 0 256 256) (.cons z3 (.cons .nslc .nil)))))) 205 none
def Dob10 : O:=rowOf 17 (.cons (.ptr (q 6) 0) (.cons (z5 256) (.cons (z5 128) (.cons (z5 8) (.cons (z5 1) (.cons (z5 129) (.cons (z5 1) (.cons (z5 130) (.cons (z5 4) (.cons (z5 134) (.cons (.ptr (q 1099) 0) (.cons (.ptr (q 1097) 0) (.cons (.map (q 1101)) (.cons (.map (q 1102)) (.cons (.map (q 1103)) (.cons (.ptr (q 1110) 0) (.cons z3 .nil))))))))))))))))) 120 none
def Dob11 : O:=rowOf 3 (.cons (.map (q 1107)) (.cons (.map (q 1108)) (.cons (.map (q 1109)) .nil))) 116 none
def Dm1 : Nat:=21778071482940061661655974875633165533183
def Dob12 : O:=.map (.cons z3 (z4 Dm0) 0 (.cons (z5 129) (z4 Dm1) 1 .nil)) 2
def Dob13 : O:=.map (.cons z3 (z4 Dm0) 0 (.cons (z5 129) (z4 Dm1) 1 (.cons (z5 130) (z4 131074) 2 .nil))) 3
def Dob14 : O:=rowOf 6 (.cons (.ptr (q 6) 0) (.cons (z5 256) (.cons (z5 9) (.cons (.slc (q 1098) 0 256 256) (.cons (z5 4) (.cons (.slc (q 1529) 0 4 zh) .nil)))))) 205 none
def Dob15 : O:=rowOf 4 (.cons (.ptr (q 1369) 0) (.cons (.ptr (q 1527) 0) (.cons (.ptr (q 1448) 0) (.cons (.ptr (q 1290) 0) .nil)))) 220 (some 1)
def Dob16 : O:=rowOf 6 (.cons (z5 130) (.cons z0 (.cons z1 (.cons z1 (.cons (z5 9) (.cons (z5 3) .nil)))))) 225 none
def Dob17 : O:=rowOf 6 (.cons (z5 132) (.cons z0 (.cons z1 (.cons z1 (.cons (z5 6) (.cons (z5 2) .nil)))))) 225 none
def Dob18 : O:=rowOf 6 (.cons (z5 133) (.cons z0 (.cons z1 (.cons z1 (.cons (z5 8) (.cons (z5 1) .nil)))))) 225 none
def Dob19 : O:=rowOf 6 (.cons (z5 131) (.cons z0 (.cons z1 (.cons z1 (.cons (z5 4) (.cons z3 .nil)))))) 225 none
def Dob20 : O:=.big 256 1 (.cons .nptr .nil) (trL [(131,(.ptr (q 1369) 0)),(133,(.ptr (q 1527) 0)),(132,(.ptr (q 1448) 0)),(130,(.ptr (q 1290) 0))]) 220 none
def Dm2 : Nat:=43556142965880123323311949751266331066367
def Dm3 : Nat:=95780974292417910250520472572284224181476133945081858
def Dob21 : O:=.map (.cons z3 (z4 Dm0) 0 (.cons (z5 129) (z4 Dm2) 1 (.cons (z5 130) (z4 Dm3) 2 (.cons (z5 134) (z4 12998426463567874) 3 .nil)))) 4
def Dob22 : O:=.map (.cons z3 (.str 0 0) 0 (.cons (z5 129) (.str 0 0) 1 (.cons (z5 130) (.str 0 0) 2 (.cons (z5 134) (.str 0 0) 3 .nil)))) 4
def Dob23 : O:=rowOf 6 (.cons (.ptr (q 6) 0) (.cons (z5 256) (.cons (z5 13) (.cons (.slc (q 1098) 0 256 256) (.cons (z5 7) (.cons (.slc (q 1529) 0 3 zh) .nil)))))) 205 none
def Dob24 : O:=rowOf 6 (.cons (z5 130) (.cons (z4 Dm3) (.cons z2 (.cons z2 (.cons (z5 12) (.cons (.neg .i64 0) .nil)))))) 225 none
def Dob25 : O:=.big 256 1 (.cons .nptr .nil) (trL [(0,(.ptr (q 2179) 0)),(131,(.ptr (q 1369) 0)),(129,(.ptr (q 2181) 0)),(133,(.ptr (q 1527) 0)),(132,(.ptr (q 1448) 0)),(130,(.ptr (q 1290) 0)),(134,(.ptr (q 2184) 0))]) 220 none
def Dob26 : O:=rowOf 6 (.cons z3 (.cons (z4 Dm0) (.cons z2 (.cons z2 (.cons (z5 10) (.cons (.neg .i64 0) .nil)))))) 225 none
def Dob27 : O:=rowOf 6 (.cons (z5 129) (.cons (z4 Dm2) (.cons z2 (.cons z2 (.cons (z5 11) (.cons (.neg .i64 0) .nil)))))) 225 none
def Dob28 : O:=rowOf 6 (.cons (z5 134) (.cons (z4 12998426463567874) (.cons z2 (.cons z2 (.cons (z5 13) (.cons (.neg .i64 0) .nil)))))) 225 none
def Dob29 : O:=rowOf 17 (.cons (.ptr (q 6) 0) (.cons (z5 256) (.cons (z5 128) (.cons (z5 8) (.cons (z5 1) (.cons (z5 129) (.cons (z5 1) (.cons (z5 130) (.cons (z5 4) (.cons (z5 134) (.cons (.ptr (q 1099) 0) (.cons (.ptr (q 1097) 0) (.cons (.map (q 2404)) (.cons (.map (q 2405)) (.cons (.map (q 2406)) (.cons .nptr (.cons z3 .nil))))))))))))))))) 120 none
def Dob30 : O:=rowOf 15 (.cons z2 (.cons (.ptr (q 6) 0) (.cons (z5 256) (.cons (z5 128) (.cons (z5 8) (.cons (z5 1) (.cons (z5 129) (.cons (z5 1) (.cons (z5 130) (.cons (z5 4) (.cons (z5 134) (.cons (z5 6) (.cons (z5 6) (.cons (.int .u64 2) (.cons z3 .nil))))))))))))))) 201 none
def Dob31 : O:=rowOf 6 (.cons (.slc (q 4) 0 256 256) (.cons (.slc (q 8) 0 256 zh) (.cons (.slc (q 5) 0 256 256) (.cons z1 (.cons (.neg .i64 139) (.cons (z5 140) .nil)))))) 65 none
def Dm4 : Nat:=55544606292441360473331957055257594973255
def Dm5 : Nat:=195844118543113225434232867428739374976487945555015
def Dob32 : O:=.big 256 256 (repV 256 z0) (trL [(0,(z4 Dm0)),(1,(z4 1105807952967)),(3,(z4 Dm0)),(7,(z4 Dm4)),(15,z0),(31,z0),(63,z0),(127,z0),(95,z0),(47,z0),(79,z0),(111,z0),(23,z0),(39,z0),(71,z0),(103,z0),(55,z0),(87,z0),(119,z0),(11,z0),(19,z0),(35,z0),(67,z0),(99,z0),(51,z0),(83,z0),(115,z0),(27,z0),(43,z0),(75,z0),(107,z0),(59,z0),(91,z0),(123,z0),(5,(z4 Dm3)),(9,z0),(17,z0),(33,z0),(65,z0),(97,z0),(49,z0),(81,z0),(113,z0),(25,z0),(41,z0),(73,z0),(105,z0),(57,z0),(89,z0),(121,z0),(13,z0),(21,z0),(37,z0),(69,z0),(101,z0),(53,z0),(85,z0),(117,z0),(29,z0),(45,z0),(77,z0),(109,z0),(61,z0),(93,z0),(125,z0),(2,(z4 Dm5)),(4,(z4 Dm2)),(8,z0),(16,z0),(32,z0),(64,z0),(128,z0),(96,z0),(48,z0),(80,z0),(112,z0),(24,z0),(40,z0),(72,z0),(104,z0),(56,z0),(88,z0),(120,z0),(12,z0),(20,z0),(36,z0),(68,z0),(100,z0),(52,z0),(84,z0),(116,z0),(28,z0),(44,z0),(76,z0),(108,z0),(60,z0),(92,z0),(124,z0),(6,(z4 12998426463567874)),(10,z0),(18,z0),(34,z0),(66,z0),(98,z0),(50,z0),(82,z0),(114,z0),(26,z0),(42,z0),(74,z0),(106,z0),(58,z0),(90,z0),(122,z0),(14,z0),(22,z0),(38,z0),(70,z0),(102,z0),(54,z0),(86,z0),(118,z0),(30,z0),(46,z0),(78,z0),(110,z0),(62,z0),(94,z0),(126,z0)]) 9 (some 1)
def Dob33 : O:=.big 256 1 (.cons (.str 0 0) .nil) (trA 256 z0 [(0,(z4 Dm0)),(1,(z4 1105807952967)),(2,(z4 Dm5)),(3,(z4 Dm0)),(4,(z4 Dm2)),(5,(z4 Dm3)),(6,(z4 12998426463567874)),(7,(z4 Dm4))]) 9 none
def Dob34 : O:=rowOf 6 (.cons (.ptr (q 6) 0) (.cons (z5 256) (.cons (z5 17) (.cons (.slc (q 1098) 0 256 256) (.cons (z5 7) (.cons (.slc (q 2402) 0 7 zh) .nil)))))) 205 none
def Dob35 : O:=rowOf 2 (.cons (.fn 27 .nil .nil) (.cons (.fn 28 .nil .nil) .nil)) 52 none
def Dob36 : O:=rowOf 17 (.cons (.ptr (q 6) 0) (.cons (z5 256) (.cons (z5 128) (.cons (z5 8) (.cons (z5 1) (.cons (z5 129) (.cons (z5 1) (.cons (z5 130) (.cons (z5 4) (.cons (z5 134) (.cons (.ptr (q 3016) 0) (.cons (.ptr (q 3014) 0) (.cons (.map (q 3018)) (.cons (.map (q 3019)) (.cons (.map (q 3020)) (.cons .nptr (.cons z3 .nil))))))))))))))))) 120 none
def Dob37 : O:=rowOf 15 (.cons z2 (.cons (.ptr (q 6) 0) (.cons (z5 256) (.cons (z5 128) (.cons (z5 8) (.cons (z5 1) (.cons (z5 129) (.cons (z5 1) (.cons (z5 130) (.cons (z5 4) (.cons (z5 134) (.cons (z5 6) (.cons z3 (.cons (.int .u64 2) (.cons z3 .nil))))))))))))))) 201 none
def Dob38 : O:=rowOf 6 (.cons (.slc (q 4) 0 256 256) (.cons (.slc (q 8) 0 256 zh) (.cons (.slc (q 5) 0 256 256) (.cons z1 (.cons (.neg .i64 146) (.cons (z5 147) .nil)))))) 65 none
def Dm6 : Nat:=121694457621910022545888827296839
def Dob39 : O:=.big 256 256 (repV 256 z0) (trL [(0,(z4 Dm0)),(1,(z4 Dm6)),(3,(z4 Dm0)),(7,(z4 Dm4)),(15,z0),(31,z0),(63,z0),(127,z0),(95,z0),(47,z0),(79,z0),(111,z0),(23,z0),(39,z0),(71,z0),(103,z0),(55,z0),(87,z0),(119,z0),(11,z0),(19,z0),(35,z0),(67,z0),(99,z0),(51,z0),(83,z0),(115,z0),(27,z0),(43,z0),(75,z0),(107,z0),(59,z0),(91,z0),(123,z0),(5,(z4 Dm3)),(9,z0),(17,z0),(33,z0),(65,z0),(129,(z4 Dm2)),(97,z0),(49,z0),(81,z0),(113,z0),(25,z0),(41,z0),(73,z0),(105,z0),(57,z0),(89,z0),(121,z0),(13,z0),(21,z0),(37,z0),(69,z0),(101,z0),(53,z0),(85,z0),(117,z0),(29,z0),(45,z0),(77,z0),(109,z0),(61,z0),(93,z0),(125,z0),(2,(z4 Dm5)),(4,(z4 Dm2)),(8,z0),(16,z0),(32,z0),(64,z0),(128,z0),(96,z0),(48,z0),(80,z0),(112,z0),(24,z0),(40,z0),(72,z0),(104,z0),(56,z0),(88,z0),(120,z0),(12,z0),(20,z0),(36,z0),(68,z0),(100,z0),(52,z0),(84,z0),(116,z0),(28,z0),(44,z0),(76,z0),(108,z0),(60,z0),(92,z0),(124,z0),(6,(z4 12998426463567874)),(10,z0),(18,z0),(34,z0),(66,z0),(130,(z4 Dm3)),(98,z0),(50,z0),(82,z0),(114,z0),(26,z0),(42,z0),(74,z0),(106,z0),(58,z0),(90,z0),(122,z0),(14,z0),(22,z0),(38,z0),(70,z0),(134,(z4 12998426463567874)),(102,z0),(54,z0),(86,z0),(118,z0),(30,z0),(46,z0),(78,z0),(110,z0),(62,z0),(94,z0),(126,z0)]) 9 (some 1)
def Dob40 : O:=.big 256 1 (.cons (.str 0 0) .nil) (trA 256 z0 [(0,(z4 Dm0)),(1,(z4 Dm6)),(2,(z4 Dm5)),(3,(z4 Dm0)),(4,(z4 Dm2)),(5,(z4 Dm3)),(6,(z4 12998426463567874)),(7,(z4 Dm4)),(129,(z4 Dm2)),(130,(z4 Dm3)),(134,(z4 12998426463567874))]) 9 none
def Dob41 : O:=rowOf 6 (.cons (.ptr (q 6) 0) (.cons (z5 256) (.cons (z5 9) (.cons (.slc (q 3015) 0 256 256) (.cons (z5 4) (.cons (.slc (q 3287) 0 4 zh) .nil)))))) 205 none
def Dob42 : O:=rowOf 4 (.cons (.ptr (q 3127) 0) (.cons (.ptr (q 3285) 0) (.cons (.ptr (q 3206) 0) (.cons (.ptr (q 3037) 0) .nil)))) 220 (some 1)
def Dob43 : O:=rowOf 6 (.cons (z5 130) (.cons (z4 Dm3) (.cons z1 (.cons z1 (.cons (z5 9) (.cons (z5 3) .nil)))))) 225 none
def Dob44 : O:=.big 256 1 (.cons .nptr .nil) (trL [(131,(.ptr (q 3127) 0)),(133,(.ptr (q 3285) 0)),(132,(.ptr (q 3206) 0)),(130,(.ptr (q 3037) 0))]) 220 none
def Dob45 : O:=rowOf 17 (.cons (.ptr (q 6) 0) (.cons (z5 256) (.cons (z5 128) (.cons (z5 8) (.cons (z5 1) (.cons (z5 129) (.cons (z5 1) (.cons (z5 130) (.cons (z5 4) (.cons (z5 134) (.cons (.ptr (q 3846) 0) (.cons (.ptr (q 3844) 0) (.cons (.map (q 3848)) (.cons (.map (q 3849)) (.cons (.map (q 3850)) (.cons .nptr (.cons z3 .nil))))))))))))))))) 120 none
def Dob46 : O:=rowOf 6 (.cons (.ptr (q 6) 0) (.cons (z5 256) (.cons (z5 9) (.cons (.slc (q 3845) 0 256 256) (.cons (z5 4) (.cons (.slc (q 4117) 0 4 zh) .nil)))))) 205 none
def Dob47 : O:=rowOf 4 (.cons (.ptr (q 3957) 0) (.cons (.ptr (q 4115) 0) (.cons (.ptr (q 4036) 0) (.cons (.ptr (q 3867) 0) .nil)))) 220 (some 1)
def Dob48 : O:=.big 256 1 (.cons .nptr .nil) (trL [(131,(.ptr (q 3957) 0)),(133,(.ptr (q 4115) 0)),(132,(.ptr (q 4036) 0)),(130,(.ptr (q 3867) 0))]) 220 none
def Dob49 : O:=rowOf 6 (.cons (.slc (q 4230) 0 256 256) (.cons (.slc (q 4234) 0 256 zh) (.cons (.slc (q 4231) 0 256 256) (.cons z1 (.cons z3 (.cons z3 .nil)))))) 65 none
def Dob50 : O:=rowOf 6 (.cons (.ptr (q 6) 0) (.cons (z5 256) (.cons (z5 10) (.cons (.slc (q 3015) 0 256 256) (.cons (z5 5) (.cons (.slc (q 4254) 0 5 zh) .nil)))))) 205 none
def Dob51 : O:=rowOf 5 (.cons (.ptr (q 3127) 0) (.cons (.ptr (q 3285) 0) (.cons (.ptr (q 3206) 0) (.cons (.ptr (q 3037) 0) (.cons (.ptr (q 4252) 0) .nil))))) 220 (some 1)
def Dob52 : O:=rowOf 6 (.cons (z5 129) (.cons (z4 Dm2) (.cons z1 (.cons z1 (.cons (z5 10) (.cons (z5 4) .nil)))))) 225 none
def Dob53 : O:=.big 256 1 (.cons .nptr .nil) (trL [(131,(.ptr (q 3127) 0)),(129,(.ptr (q 4252) 0)),(133,(.ptr (q 3285) 0)),(132,(.ptr (q 3206) 0)),(130,(.ptr (q 3037) 0))]) 220 none
end
end Go.Proofs.YtbamnpenkjfgkaaGreat
